/-
  Each function of the program computes what its plain function says: printed by program. No condition.
-/
import Derived.Test.YtleedbicbiicpaaFn
import Derived.Test.YtleedbicbiicpaaInf
import Derived.Test.YtleedbicbiicpaaCon1
namespace Go.Proofs.Ytleedbicbiicpaa
open Go Go.Tc Go.Fn
set_option linter.unusedVariables false

set_option maxHeartbeats 40000000 in
theorem c_spec_DerivationOf (A : Nat → Prop) (w : World) (hA : ∀ k, A k → k < w.heap.size) (v0_ : Value) (p0 : (List GRewrite)) (hp0 : Rd A w v0_ p0) (v1_ : Value) (p1 : (List Int)) (hp1 : Rd A w v1_ p1) (v2_ : Value) (p2 : (List Int)) (hp2 : Rd A w v2_ p2) (p3 : Int) (r : (List (List Int)) × Int) (hr : F_spec_DerivationOf p0 p1 p2 p3 = some r) :
    Con Try.prog 21 [v0_, v1_, v2_, .int .i64 p3] A w (fun x_ : Value × List Nat => .tuple #[x_.1, .int .i64 r.2]) (fun x_ => [.od 23 x_.1 r.1 x_.2]) := by
  refine Con_of (v := fun (r : (List (List Int)) × Int) (x_ : Value × List Nat) => .tuple #[x_.1, .int .i64 r.2]) (fs := fun r x_ => [.od 23 x_.1 r.1 x_.2]) Try.func21 rfl Try.ntmps21 rfl ((((SH.start hA).start_rd rfl hp0).start_rd rfl hp1).start_rd rfl hp2) rfl ?_ hr
  unfold F_spec_DerivationOf
  refine J_seq ?_
  refine J_region ?_
  refine JL_q (wants_none rfl) rfl (ex_assign rfl) ?_
  refine JL_q (wants_none rfl) rfl (ex_assign rfl) ?_
  refine JL_nil ?_
  refine N_then ?_
  refine J_seq ?_
  refine J_cut' (S' := Unit) (G' := Unit) (fun _ _ => [(0, v0_), (1, v1_), (2, v2_), (3, .int .i64 p3)]) (fun _ _ => [.rd v0_ p0, .rd v1_ p1, .rd v2_ p2]) ?_ (fun s1 g2 => ?_)
  · refine J_seq ?_
    refine J_region ?_
    refine JL_q (wants_none rfl) rfl (ex_move rfl) ?_
    refine JL_bnd fun r3 hr4 => ?_
    refine JL_call (wants_none rfl) rfl Try.call26 rfl (Ca_of0 fun w hh => c_spec_l10Is _ w (fun _ hk => hk.elim) _ _ (hh.rd0 2 rfl) _ hr4) (fun _ => ?_)
    refine JL_q (wants_none rfl) rfl (ex_not rfl) ?_
    refine JL_q (wants_none rfl) rfl (ex_move rfl) ?_
    refine JL_cond (fun h5 => ?_) (fun h5 => ?_)
    · refine JL_passed rfl rfl rfl h5 ?_
      refine JL_passed rfl rfl rfl h5 ?_
      refine JL_passed rfl rfl rfl h5 ?_
      refine JL_q (wants_none rfl) rfl (ex_pick_true rfl h5 rfl) ?_
      refine JL_q (wants_none rfl) rfl (ex_move rfl) ?_
      refine JL_passed rfl rfl rfl rfl ?_
      refine JL_passed rfl rfl rfl rfl ?_
      refine JL_passed rfl rfl rfl rfl ?_
      refine JL_q (wants_none rfl) rfl (ex_pick_true rfl rfl rfl) ?_
      refine JL_nil ?_
      refine N_then ?_
      refine J_if_true rfl rfl ?_
      refine J_seq ?_
      refine J_region ?_
      refine JL_q (wants_none rfl) rfl (ex_assign rfl) ?_
      refine JL_q (wants_none rfl) rfl (ex_assign rfl) ?_
      refine JL_nil ?_
      refine N_then ?_
      refine J_ret ?_
      refine N_mid_ret ?_
      refine N_then_ret ?_
      refine N_ctx (fun w hh => SH.od_nil (α := (List Int)) 23 hh) ?_
      exact N_ret2 rfl (rv_tmp rfl) (rv_tmp rfl) (fun w hh => ⟨((.slice none 0 0 : Value), ([] : List Nat)), rfl, hh.sel [0] rfl⟩)
    · refine JL_q (wants_some rfl rfl rfl h5) rfl (ex_move rfl) ?_
      refine JL_bnd fun r6 hr7 => ?_
      refine JL_call (wants_some rfl rfl rfl h5) rfl Try.call27 rfl (Ca_of0 fun w hh => c_spec_l03Is _ w (fun _ hk => hk.elim) _ _ (hh.rd0 1 rfl) _ hr7) (fun _ => ?_)
      refine JL_q (wants_some rfl rfl rfl h5) rfl (ex_not rfl) ?_
      refine JL_q (wants_none rfl) rfl (ex_pick_false rfl h5 rfl) ?_
      refine JL_q (wants_none rfl) rfl (ex_move rfl) ?_
      refine JL_cond (fun h8 => ?_) (fun h8 => ?_)
      · refine JL_passed rfl rfl rfl h8 ?_
        refine JL_passed rfl rfl rfl h8 ?_
        refine JL_passed rfl rfl rfl h8 ?_
        refine JL_q (wants_none rfl) rfl (ex_pick_true rfl h8 rfl) ?_
        refine JL_nil ?_
        refine N_then ?_
        refine J_if_true rfl rfl ?_
        refine J_seq ?_
        refine J_region ?_
        refine JL_q (wants_none rfl) rfl (ex_assign rfl) ?_
        refine JL_q (wants_none rfl) rfl (ex_assign rfl) ?_
        refine JL_nil ?_
        refine N_then ?_
        refine J_ret ?_
        refine N_mid_ret ?_
        refine N_then_ret ?_
        refine N_ctx (fun w hh => SH.od_nil (α := (List Int)) 23 hh) ?_
        exact N_ret2 rfl (rv_tmp rfl) (rv_tmp rfl) (fun w hh => ⟨((.slice none 0 0 : Value), ([] : List Nat)), rfl, hh.sel [0] rfl⟩)
      · refine JL_q (wants_some rfl rfl rfl h8) rfl (ex_move rfl) ?_
        refine JL_bnd fun r9 hr10 => ?_
        refine JL_call (wants_some rfl rfl rfl h8) rfl Try.call27 rfl (Ca_of0 fun w hh => c_spec_l03Is _ w (fun _ hk => hk.elim) _ _ (hh.rd0 0 rfl) _ hr10) (fun _ => ?_)
        refine JL_q (wants_some rfl rfl rfl h8) rfl (ex_not rfl) ?_
        refine JL_q (wants_none rfl) rfl (ex_pick_false rfl h8 rfl) ?_
        refine JL_nil ?_
        refine N_then ?_
        refine J_if rfl (fun h11 => ?_) (fun h11 => ?_)
        · refine J_seq ?_
          refine J_region ?_
          refine JL_q (wants_none rfl) rfl (ex_assign rfl) ?_
          refine JL_q (wants_none rfl) rfl (ex_assign rfl) ?_
          refine JL_nil ?_
          refine N_then ?_
          refine J_ret ?_
          refine N_mid_ret ?_
          refine N_then_ret ?_
          refine N_ctx (fun w hh => SH.od_nil (α := (List Int)) 23 hh) ?_
          exact N_ret2 rfl (rv_tmp rfl) (rv_tmp rfl) (fun w hh => ⟨((.slice none 0 0 : Value), ([] : List Nat)), rfl, hh.sel [0] rfl⟩)
        · refine J_skip ?_
          exact N_meet' () ⟨rfl, rfl, rfl, rfl, trivial⟩ [2, 1, 0] rfl rfl
  · refine N_then ?_
    refine J_seq ?_
    refine J_seq ?_
    refine J_region ?_
    refine JL_q (wants_none rfl) rfl (ex_move rfl) ?_
    refine JL_bnd fun r12 hr13 => ?_
    refine JL_call (wants_none rfl) rfl Try.call28 rfl (Ca_of0 fun w hh => c_spec_l05Budget _ w (fun _ hk => hk.elim) _ _ hr13) (fun _ => ?_)
    refine JL_q (wants_none rfl) rfl (ex_not rfl) ?_
    refine JL_nil ?_
    refine N_then ?_
    refine J_if rfl (fun h14 => ?_) (fun h14 => ?_)
    · refine J_seq ?_
      refine J_region ?_
      refine JL_q (wants_none rfl) rfl (ex_assign rfl) ?_
      refine JL_q (wants_none rfl) rfl (ex_assign rfl) ?_
      refine JL_nil ?_
      refine N_then ?_
      refine J_ret ?_
      refine N_then_ret ?_
      refine N_ctx (fun w hh => SH.od_nil (α := (List Int)) 23 hh) ?_
      exact N_ret2 rfl (rv_tmp rfl) (rv_tmp rfl) (fun w hh => ⟨((.slice none 0 0 : Value), ([] : List Nat)), rfl, hh.sel [0] rfl⟩)
    · refine J_skip ?_
      refine N_then ?_
      refine J_seq ?_
      refine J_region ?_
      refine JL_q (wants_none rfl) rfl (ex_move rfl) ?_
      refine JL_q (wants_none rfl) rfl (ex_move rfl) ?_
      refine JL_q (wants_none rfl) rfl (ex_move rfl) ?_
      refine JL_inline (wants_none rfl) rfl Try.call29 rfl Try.func29 rfl Try.ntmps29 rfl rfl (fun K_ hK15 => ?_)
      refine J_seq ?_
      refine J_region ?_
      refine JL_q (wants_none rfl) rfl (ex_assign rfl) ?_
      refine JL_nil ?_
      refine N_then ?_
      refine J_seq ?_
      refine J_region ?_
      refine JL_q (wants_none rfl) rfl (ex_move rfl) ?_
      refine JL_bnd fun r16 hr17 => ?_
      refine JL_call (wants_none rfl) rfl Try.call36 rfl (Ca_self (fun _ => rfl) fun w hh => c_spec_l00Own _ w (fun _ hk => hk.elim) _ _ (hh.rd0 1 rfl) _ hr17) (fun x18 => ?_)
      refine JL_ctx (fun w hh => hh.tokf 0 rfl rfl) ?_
      refine JL_st (wants_none rfl) rfl (st_buildSlice_od (vs := [x18]) (B := (((x18 : Value).ownBlock.toList ++ []) ++ [])) ([r16] : List (List Int)) [0] Try.underlying33 ti_23 zi_23 rfl rfl rfl rfl rfl (fun w hh => (dwv_cons (hh.dw 0 rfl) dwv_nil))) (fun b19 => ?_)
      refine JL_st (wants_none rfl) rfl (st_buildSlice (vs := [.int .i64 (-1)]) ([(-1)] : List Int) Try.underlying23 ti_2 zi_2 rfl rfl rfl (fun w hh => ⟨(Rd.mk_int _ _ _), trivial⟩)) (fun b20 => ?_)
      refine JL_st (wants_none rfl) rfl (st_buildSlice_od (vs := [.slice none 0 0]) (B := ([] : List Nat)) ([([] : (List Int))] : List (List Int)) [] Try.underlying33 ti_23 zi_23 rfl rfl rfl rfl rfl (fun w hh => (dwv_cons dw_nil dwv_nil))) (fun b21 => ?_)
      refine JL_q (wants_none rfl) rfl (ex_build si_52 rfl (.cons fi_52_0 rfl rfl (.cons fi_52_1 rfl rfl (.cons fi_52_2 rfl rfl (.cons fi_52_3 rfl rfl .nil)))) (fun w hh => ⟨(hh.cv_od 2 rfl), (hh.cv_ow 1 rfl), (hh.cv_od 0 rfl), cv_bool, trivial⟩)) ?_
      refine JL_st (wants_none rfl) rfl (st_box' rfl (fun w hh => (cv_aggs ⟨(hh.cv_od 2 rfl), (hh.cv_ow 1 rfl), (hh.cv_od 0 rfl), cv_bool, trivial⟩))) (fun b22 => ?_)
      refine JL_q (wants_none rfl) rfl (ex_assign rfl) ?_
      refine JL_nil ?_
      refine N_then ?_
      refine J_seq ?_
      refine J_region ?_
      refine JL_q (wants_none rfl) rfl (ex_move rfl) ?_
      refine JL_bnd fun r23 hr24 => ?_
      refine JL_call (wants_none rfl) rfl Try.call45 rfl (Ca_of0 fun w hh => c_spec_l10Key _ w (fun _ hk => hk.elim) _ _ (hh.rd0 7 rfl) _ hr24) (fun _ => ?_)
      refine JL_st (wants_none rfl) rfl (st_buildSlice (vs := [.string r23]) ([r23] : List ByteArray) Try.underlying74 ti_9 zi_9 rfl rfl rfl (fun w hh => ⟨(Rd.mk_str _ _ _), trivial⟩)) (fun b25 => ?_)
      refine JL_q (wants_none rfl) rfl (ex_assign rfl) ?_
      refine JL_nil ?_
      refine N_then ?_
      refine J_seq ?_
      refine J_seq ?_
      refine J_region ?_
      refine JL_q (wants_none rfl) rfl (ex_assign rfl) ?_
      refine JL_nil ?_
      refine N_then ?_
      refine J_ctx (fun w hh => hh.od_ow 4 rfl) ?_
      refine J_ctx (fun w hh => hh.od_ow 2 rfl) ?_
      refine J_loop' (S := (List (List Int)) × (List Int) × (List (List Int)) × Bool × (List ByteArray) × Int) (G := Value × Value × Value × Value) (F_spec_DerivationOf_L1 p0 p2 p3) (fun s26 g27 => [(0, v0_), (2, .int .i64 p3), (7, .pointer (some ⟨b22, 0, none⟩)), (8, g27.2.2.2), (9, .int .i64 s26.2.2.2.2.2)]) (fun s26 g27 => [.rd v0_ p0, .ow 23 g27.1 s26.1, .ow 2 g27.2.1 s26.2.1, .ow 23 g27.2.2.1 s26.2.2.1, .bx b22 52 [g27.1, g27.2.1, g27.2.2.1, .bool s26.2.2.2.1], .ow 9 g27.2.2.2 s26.2.2.2.2.1, .rd v2_ p2]) (([r16] : List (List Int)), ([(-1)] : List Int), ([([] : (List Int))] : List (List Int)), true, ([r23] : List ByteArray), 0) ((.slice (some ⟨b19, 0, none⟩) 1 1), (.slice (some ⟨b20, 0, none⟩) 1 1), (.slice (some ⟨b21, 0, none⟩) 1 1), (.slice (some ⟨b25, 0, none⟩) 1 1)) ⟨rfl, rfl, rfl, rfl, rfl, trivial⟩ [7, 4, 3, 2, 1, 0, 9] rfl rfl (fun s26 g27 => ?_) (fun s26 g27 => ?_)
      · obtain ⟨g27_0, g27_1, g27_2, g27_3⟩ := g27
        unfold F_spec_DerivationOf_L1
        refine J_seq ?_
        refine J_seq ?_
        refine J_region ?_
        refine JL_q (wants_none rfl) rfl (ex_move rfl) ?_
        refine JL_q (wants_none rfl) rfl (ex_move rfl) ?_
        refine JL_q (wants_none rfl) rfl (ex_nilCheck rfl) ?_
        refine JL_q (wants_none rfl) rfl (ex_fieldAddr fi_52_0 rfl rfl) ?_
        refine JL_q (wants_none rfl) rfl (ex_load_bx 4 ti_33 rfl rfl rfl) ?_
        refine JL_q (wants_none rfl) rfl (ex_len_ow 1 Try.underlying33 rfl rfl) ?_
        refine JL_q (wants_none rfl) rfl (ex_lss rfl rfl) ?_
        refine JL_nil ?_
        refine N_then ?_
        refine J_if rfl (fun h28 => ?_) (fun h28 => ?_)
        · refine J_skip ?_
          refine N_then ?_
          refine J_seq ?_
          refine J_block ?_
          refine J_seq ?_
          refine J_seq ?_
          refine J_region ?_
          refine JL_q (wants_none rfl) rfl (ex_move rfl) ?_
          refine JL_q (wants_none rfl) rfl (ex_move rfl) ?_
          refine JL_q (wants_none rfl) rfl (ex_eql rfl rfl) ?_
          refine JL_nil ?_
          refine N_then ?_
          refine J_if rfl (fun h29 => ?_) (fun h29 => ?_)
          · refine J_seq ?_
            refine J_region ?_
            refine JL_q (wants_none rfl) rfl (ex_move rfl) ?_
            refine JL_q (wants_none rfl) rfl (ex_nilCheck rfl) ?_
            refine JL_q (wants_none rfl) rfl (ex_fieldAddr fi_52_3 rfl rfl) ?_
            refine JL_sk (wants_none rfl) (sk_store_bx' 4 ti_4 rfl rfl (fun w hh => cv_bool) rfl rfl rfl rfl) ?_
            refine JL_nil ?_
            refine N_then ?_
            refine J_seq ?_
            refine J_region ?_
            refine JL_q (wants_none rfl) rfl (ex_move rfl) ?_
            refine JL_q (wants_none rfl) rfl (ex_assign rfl) ?_
            refine JL_nil ?_
            refine N_then ?_
            refine J_ret ?_
            refine N_then_ret ?_
            refine N_block_ret ?_
            refine N_then_ret ?_
            refine N_round_reti ?_
            refine N_then_ret ?_
            refine N_inl1 hK15 rfl (rv_tmp rfl) ?_
            refine JL_q (wants_none rfl) rfl (ex_assign rfl) ?_
            refine JL_nil ?_
            refine N_then ?_
            refine J_seq ?_
            refine J_region ?_
            refine JL_q (wants_none rfl) rfl (ex_move rfl) ?_
            refine JL_q (wants_none rfl) rfl (ex_nilCheck rfl) ?_
            refine JL_q (wants_none rfl) rfl (ex_fieldAddr fi_52_0 rfl rfl) ?_
            refine JL_q (wants_none rfl) rfl (ex_load_bx 4 ti_33 rfl rfl rfl) ?_
            refine JL_q (wants_none rfl) rfl (ex_move rfl) ?_
            refine JL_bnd fun r30 hr31 => ?_
            refine JL_call (wants_none rfl) rfl Try.call30 rfl (Ca_of0 fun w hh => c_spec_l10Row _ w (fun _ hk => hk.elim) _ _ (hh.ow0 1 rfl) _ _ (hh.rd0 6 rfl) _ hr31) (fun _ => ?_)
            refine JL_q (wants_none rfl) rfl (ex_assign rfl) ?_
            refine JL_nil ?_
            refine N_then ?_
            refine J_seq ?_
            refine J_cut' (S' := Unit) (G' := Unit) (fun _ _ => [(10, .pointer (some ⟨b22, 0, none⟩)), (11, .int .i64 r30)]) (fun _ _ => [.ow 23 g27_0 s26.1, .ow 2 g27_1 s26.2.1, .ow 23 g27_2 s26.2.2.1, .bx b22 52 [g27_0, g27_1, g27_2, .bool false]]) ?_ (fun s32 g33 => ?_)
            · refine J_seq ?_
              refine J_region ?_
              refine JL_q (wants_none rfl) rfl (ex_move rfl) ?_
              refine JL_q (wants_none rfl) rfl (ex_lss rfl rfl) ?_
              refine JL_q (wants_none rfl) rfl (ex_move rfl) ?_
              refine JL_cond (fun h34 => ?_) (fun h34 => ?_)
              · refine JL_q (wants_some rfl rfl rfl h34) rfl (ex_move rfl) ?_
                refine JL_q (wants_some rfl rfl rfl h34) rfl (ex_nilCheck rfl) ?_
                refine JL_q (wants_some rfl rfl rfl h34) rfl (ex_fieldAddr fi_52_3 rfl rfl) ?_
                refine JL_q (wants_some rfl rfl rfl h34) rfl (ex_load_bx 4 ti_4 rfl rfl rfl) ?_
                refine JL_q (wants_none rfl) rfl (ex_pick_true rfl h34 rfl) ?_
                refine JL_nil ?_
                refine N_then ?_
                refine J_if_false rfl rfl ?_
                refine J_skip ?_
                exact N_meet' () ⟨rfl, rfl, trivial⟩ [1, 2, 3, 4] rfl rfl
              · refine JL_passed rfl rfl rfl h34 ?_
                refine JL_passed rfl rfl rfl h34 ?_
                refine JL_passed rfl rfl rfl h34 ?_
                refine JL_passed rfl rfl rfl h34 ?_
                refine JL_q (wants_none rfl) rfl (ex_pick_false rfl h34 rfl) ?_
                refine JL_nil ?_
                refine N_then ?_
                refine J_if_false rfl rfl ?_
                refine J_skip ?_
                exact N_meet' () ⟨rfl, rfl, trivial⟩ [1, 2, 3, 4] rfl rfl
            · refine N_then ?_
              refine J_seq ?_
              refine J_seq ?_
              refine J_region ?_
              refine JL_q (wants_none rfl) rfl (ex_move rfl) ?_
              refine JL_q (wants_none rfl) rfl (ex_lss rfl rfl) ?_
              refine JL_nil ?_
              refine N_then ?_
              refine J_if rfl (fun h35 => ?_) (fun h35 => ?_)
              · refine J_seq ?_
                refine J_region ?_
                refine JL_q (wants_none rfl) rfl (ex_assign rfl) ?_
                refine JL_q (wants_none rfl) rfl (ex_assign rfl) ?_
                refine JL_nil ?_
                refine N_then ?_
                refine J_ret ?_
                refine N_then_ret ?_
                refine N_ctx (fun w hh => SH.od_nil (α := (List Int)) 23 hh) ?_
                exact N_ret2 rfl (rv_tmp rfl) (rv_tmp rfl) (fun w hh => ⟨((.slice none 0 0 : Value), ([] : List Nat)), rfl, hh.sel [0] rfl⟩)
              · refine J_skip ?_
                refine N_then ?_
                refine J_seq ?_
                refine J_region ?_
                refine JL_st (wants_none rfl) rfl (st_buildSlice_od (vs := []) (B := ([] : List Nat)) ([] : List (List Int)) [] Try.underlying33 ti_23 zi_23 rfl rfl rfl rfl rfl (fun w hh => dwv_nil)) (fun b36 => ?_)
                refine JL_q (wants_none rfl) rfl (ex_assign rfl) ?_
                refine JL_nil ?_
                refine N_then ?_
                refine J_seq ?_
                refine J_loop' (S := Int × (List (List Int))) (G := Value × List Nat) (F_spec_DerivationOf_L2 s26) (fun s37 g38 => [(10, .pointer (some ⟨b22, 0, none⟩)), (11, .int .i64 s37.1), (12, g38.1)]) (fun s37 g38 => [.ow 23 g27_0 s26.1, .ow 2 g27_1 s26.2.1, .ow 23 g27_2 s26.2.2.1, .bx b22 52 [g27_0, g27_1, g27_2, .bool false], .od 23 g38.1 s37.2 g38.2]) (r30, ([] : List (List Int))) ((.slice (some ⟨b36, 0, none⟩) 0 0), ([] : List Nat)) ⟨rfl, rfl, rfl, trivial⟩ [1, 2, 3, 4, 0] rfl rfl (fun s37 g38 => ?_) (fun s37 g38 => ?_)
                · obtain ⟨g38_0, g38_1⟩ := g38
                  unfold F_spec_DerivationOf_L2
                  refine J_seq ?_
                  refine J_seq ?_
                  refine J_region ?_
                  refine JL_q (wants_none rfl) rfl (ex_move rfl) ?_
                  refine JL_q (wants_none rfl) rfl (ex_gtr rfl rfl) ?_
                  refine JL_nil ?_
                  refine N_then ?_
                  refine J_if rfl (fun h39 => ?_) (fun h39 => ?_)
                  · refine J_skip ?_
                    refine N_then ?_
                    refine J_seq ?_
                    refine J_block ?_
                    refine J_region ?_
                    refine JL_q (wants_none rfl) rfl (ex_move rfl) ?_
                    refine JL_q (wants_none rfl) rfl (ex_nilCheck rfl) ?_
                    refine JL_q (wants_none rfl) rfl (ex_fieldAddr fi_52_2 rfl rfl) ?_
                    refine JL_q (wants_none rfl) rfl (ex_load_bx 3 ti_33 rfl rfl rfl) ?_
                    refine JL_q (wants_none rfl) rfl (ex_move rfl) ?_
                    refine JL_bnd fun y40 hy41 => ?_
                    refine JL_ow_open (v := g27_2) 2 rfl hy41 ?_; rintro b42 cap43 rfl
                    refine JL_q (wants_none rfl) rfl (ex_index_ow 2 Try.underlying33 ti_23 rfl rfl rfl hy41) ?_
                    refine JL_st (wants_none rfl) rfl (st_load_ow_o 2 (opens_sl _) ti_23 rfl rfl hy41) (fun v44 => ?_)
                    refine JL_bnd fun r45 hr46 => ?_
                    refine JL_call (wants_none rfl) rfl Try.call36 rfl (Ca_self (fun _ => rfl) fun w hh => c_spec_l00Own _ w (fun _ hk => hk.elim) _ _ (hh.rd0 0 rfl) _ hr46) (fun x47 => ?_)
                    refine JL_ctx (fun w hh => hh.tokf 0 rfl rfl) ?_
                    refine JL_st (wants_none rfl) rfl (st_buildSlice_od (vs := [x47]) (B := (((x47 : Value).ownBlock.toList ++ []) ++ [])) ([r45] : List (List Int)) [0] Try.underlying33 ti_23 zi_23 rfl rfl rfl rfl rfl (fun w hh => (dwv_cons (hh.dw 0 rfl) dwv_nil))) (fun b48 => ?_)
                    refine JL_q (wants_none rfl) rfl (ex_move rfl) ?_
                    refine JL_bnd fun z49 hz50 => ?_
                    refine JL_st (wants_none rfl) rfl (st_append_od 0 8 Try.underlying33 ti_23 zi_23 rfl bi_23 rfl rfl rfl rfl rfl rfl hz50) (fun v51 => ?_)
                    refine JL_q (wants_none rfl) rfl (ex_assign rfl) ?_
                    refine JL_nil ?_
                    refine N_block ?_
                    refine N_then ?_
                    refine J_region ?_
                    refine JL_q (wants_none rfl) rfl (ex_move rfl) ?_
                    refine JL_q (wants_none rfl) rfl (ex_nilCheck rfl) ?_
                    refine JL_q (wants_none rfl) rfl (ex_fieldAddr fi_52_1 rfl rfl) ?_
                    refine JL_q (wants_none rfl) rfl (ex_load_bx 7 ti_23 rfl rfl rfl) ?_
                    refine JL_q (wants_none rfl) rfl (ex_move rfl) ?_
                    refine JL_bnd fun y52 hy53 => ?_
                    refine JL_ow_open (v := g27_1) 5 rfl hy53 ?_; rintro b54 cap55 rfl
                    refine JL_q (wants_none rfl) rfl (ex_index_ow 5 Try.underlying23 ti_2 rfl rfl rfl hy53) ?_
                    refine JL_q (wants_none rfl) rfl (ex_load_ow_int 5 ti_2 rfl rfl hy53) ?_
                    refine JL_q (wants_none rfl) rfl (ex_assign rfl) ?_
                    refine JL_nil ?_
                    exact N_next' (v51, ((((x47 : Value).ownBlock.toList ++ []) ++ []) ++ g38_1)) ⟨rfl, rfl, rfl, trivial⟩ [4, 5, 6, 7, 0] rfl rfl
                  · refine J_exit ?_
                    refine N_then_exit ?_
                    exact N_break' (g38_0, g38_1) ⟨rfl, rfl, rfl, trivial⟩ [0, 1, 2, 3, 4] rfl rfl
                · obtain ⟨g38_0, g38_1⟩ := g38
                  refine N_then ?_
                  refine J_seq ?_
                  refine J_seq ?_
                  refine J_region ?_
                  refine JL_q (wants_none rfl) rfl (ex_move rfl) ?_
                  refine JL_q (wants_none rfl) rfl (ex_od 4 rfl (ex_len_ow 4 Try.underlying33 rfl rfl)) ?_
                  refine JL_q (wants_none rfl) rfl (ex_gtr rfl rfl) ?_
                  refine JL_nil ?_
                  refine N_then ?_
                  refine J_if rfl (fun h57 => ?_) (fun h57 => ?_)
                  · refine J_seq ?_
                    refine J_region ?_
                    refine JL_q (wants_none rfl) rfl (ex_assign rfl) ?_
                    refine JL_q (wants_none rfl) rfl (ex_assign rfl) ?_
                    refine JL_nil ?_
                    refine N_then ?_
                    refine J_ret ?_
                    refine N_then_ret ?_
                    refine N_ctx (fun w hh => SH.od_nil (α := (List Int)) 23 hh) ?_
                    exact N_ret2 rfl (rv_tmp rfl) (rv_tmp rfl) (fun w hh => ⟨((.slice none 0 0 : Value), ([] : List Nat)), rfl, hh.sel [0] rfl⟩)
                  · refine J_skip ?_
                    refine N_then ?_
                    refine J_seq ?_
                    refine J_region ?_
                    refine JL_q (wants_none rfl) rfl (ex_move rfl) ?_
                    refine JL_q (wants_none rfl) rfl (ex_assign rfl) ?_
                    refine JL_q (wants_none rfl) rfl (ex_assign rfl) ?_
                    refine JL_nil ?_
                    refine N_then ?_
                    refine J_ret ?_
                    exact N_ret2 rfl (rv_tmp rfl) (rv_tmp rfl) (fun w hh => ⟨(g38_0, g38_1), rfl, hh.sel [4] rfl⟩)
          · refine J_skip ?_
            refine N_then ?_
            refine J_seq ?_
            refine J_region ?_
            refine JL_q (wants_none rfl) rfl (ex_move rfl) ?_
            refine JL_q (wants_none rfl) rfl (ex_move rfl) ?_
            refine JL_q (wants_none rfl) rfl (ex_nilCheck rfl) ?_
            refine JL_q (wants_none rfl) rfl (ex_fieldAddr fi_52_0 rfl rfl) ?_
            refine JL_q (wants_none rfl) rfl (ex_load_bx 4 ti_33 rfl rfl rfl) ?_
            refine JL_q (wants_none rfl) rfl (ex_move rfl) ?_
            refine JL_bnd fun y58 hy59 => ?_
            refine JL_ow_open (v := g27_0) 1 rfl hy59 ?_; rintro b60 cap61 rfl
            refine JL_q (wants_none rfl) rfl (ex_index_ow 1 Try.underlying33 ti_23 rfl rfl rfl hy59) ?_
            refine JL_st (wants_none rfl) rfl (st_load_ow_o 1 (opens_sl _) ti_23 rfl rfl hy59) (fun v62 => ?_)
            refine JL_bnd fun r63 hr64 => ?_
            refine JL_call (wants_none rfl) rfl Try.call46 rfl (Ca_self (fun _ => rfl) fun w hh => c_spec_l10Next _ w (fun _ hk => hk.elim) _ _ (hh.rd0 1 rfl) _ _ (hh.rd0 0 rfl) _ hr64) (fun x65 => ?_)
            obtain ⟨x65_0, x65_1, x65_2, x65_3⟩ := x65
            refine JL_q (wants_none rfl) rfl (ex_move rfl) ?_
            refine JL_q (wants_none rfl) rfl (ex_extract rfl rfl) ?_
            refine JL_q (wants_none rfl) rfl (ex_extract rfl rfl) ?_
            refine JL_q (wants_none rfl) rfl (ex_extract rfl rfl) ?_
            refine JL_q (wants_none rfl) rfl (ex_assign rfl) ?_
            refine JL_q (wants_none rfl) rfl (ex_assign rfl) ?_
            refine JL_q (wants_none rfl) rfl (ex_assign rfl) ?_
            refine JL_nil ?_
            refine N_then ?_
            refine J_seq ?_
            refine J_cut' (S' := Bool) (G' := Unit) (fun s66 _ => [(0, v0_), (2, .int .i64 p3), (7, .pointer (some ⟨b22, 0, none⟩)), (8, g27_3), (9, .int .i64 s26.2.2.2.2.2), (10, x65_0), (11, x65_2)]) (fun s66 _ => [.rd v0_ p0, .ow 23 (.slice (some ⟨b60, 0, none⟩) s26.1.length cap61) s26.1, .ow 2 g27_1 s26.2.1, .ow 23 g27_2 s26.2.2.1, .bx b22 52 [(.slice (some ⟨b60, 0, none⟩) s26.1.length cap61), g27_1, g27_2, .bool s66], .ow 9 g27_3 s26.2.2.2.2.1, .od 23 x65_0 r63.1 x65_1, .od 23 x65_2 r63.2.1 x65_3, .rd v2_ p2]) ?_ (fun s66 g67 => ?_)
            · refine J_region ?_
              refine JL_q (wants_none rfl) rfl (ex_move rfl) ?_
              refine JL_q (wants_none rfl) rfl (ex_move rfl) ?_
              refine JL_q (wants_none rfl) rfl (ex_nilCheck rfl) ?_
              refine JL_q (wants_none rfl) rfl (ex_fieldAddr fi_52_3 rfl rfl) ?_
              refine JL_q (wants_none rfl) rfl (ex_load_bx 7 ti_4 rfl rfl rfl) ?_
              refine JL_q (wants_none rfl) rfl (ex_move rfl) ?_
              refine JL_cond (fun h68 => ?_) (fun h68 => ?_)
              · refine JL_q (wants_some rfl rfl rfl h68) rfl (ex_move rfl) ?_
                refine JL_q (wants_none rfl) rfl (ex_pick_true rfl h68 rfl) ?_
                refine JL_q (wants_none rfl) rfl (ex_nilCheck rfl) ?_
                refine JL_q (wants_none rfl) rfl (ex_fieldAddr fi_52_3 rfl rfl) ?_
                refine JL_sk (wants_none rfl) (sk_store_bx' 7 ti_4 rfl rfl (fun w hh => cv_bool) rfl rfl rfl rfl) ?_
                refine JL_nil ?_
                exact N_meet' () ⟨rfl, rfl, rfl, rfl, rfl, rfl, rfl, trivial⟩ [3, 4, 5, 6, 7, 8, 0, 1, 9] rfl rfl
              · refine JL_passed rfl rfl rfl h68 ?_
                refine JL_q (wants_none rfl) rfl (ex_pick_false rfl h68 rfl) ?_
                refine JL_q (wants_none rfl) rfl (ex_nilCheck rfl) ?_
                refine JL_q (wants_none rfl) rfl (ex_fieldAddr fi_52_3 rfl rfl) ?_
                refine JL_sk (wants_none rfl) (sk_store_bx' 7 ti_4 rfl rfl (fun w hh => cv_bool) rfl rfl rfl rfl) ?_
                refine JL_nil ?_
                exact N_meet' () ⟨rfl, rfl, rfl, rfl, rfl, rfl, rfl, trivial⟩ [3, 4, 5, 6, 7, 8, 0, 1, 9] rfl rfl
            · refine N_then ?_
              refine J_seq ?_
              refine J_region ?_
              refine JL_q (wants_none rfl) rfl (ex_assign rfl) ?_
              refine JL_nil ?_
              refine N_then ?_
              refine J_loop' (S := (List (List Int)) × (List Int) × (List (List Int)) × (List ByteArray) × Int) (G := Value × Value × Value × Value) (F_spec_DerivationOf_L3 p2 s26 r63) (fun s69 g70 => [(0, v0_), (2, .int .i64 p3), (7, .pointer (some ⟨b22, 0, none⟩)), (8, g70.2.2.2), (9, .int .i64 s26.2.2.2.2.2), (10, x65_0), (11, x65_2), (13, .int .i64 s69.2.2.2.2)]) (fun s69 g70 => [.rd v0_ p0, .ow 23 g70.1 s69.1, .ow 2 g70.2.1 s69.2.1, .ow 23 g70.2.2.1 s69.2.2.1, .bx b22 52 [g70.1, g70.2.1, g70.2.2.1, .bool s66], .ow 9 g70.2.2.2 s69.2.2.2.1, .od 23 x65_0 r63.1 x65_1, .od 23 x65_2 r63.2.1 x65_3, .rd v2_ p2]) (s26.1, s26.2.1, s26.2.2.1, s26.2.2.2.2.1, 0) ((.slice (some ⟨b60, 0, none⟩) s26.1.length cap61), g27_1, g27_2, g27_3) ⟨rfl, rfl, rfl, rfl, rfl, rfl, rfl, rfl, trivial⟩ [0, 1, 2, 3, 4, 5, 6, 7, 8] rfl rfl (fun s69 g70 => ?_) (fun s69 g70 => ?_)
              · obtain ⟨g70_0, g70_1, g70_2, g70_3⟩ := g70
                unfold F_spec_DerivationOf_L3
                refine J_seq ?_
                refine J_seq ?_
                refine J_region ?_
                refine JL_q (wants_none rfl) rfl (ex_move rfl) ?_
                refine JL_q (wants_none rfl) rfl (ex_move rfl) ?_
                refine JL_q (wants_none rfl) rfl (ex_od 6 rfl (ex_len_ow 6 Try.underlying33 rfl rfl)) ?_
                refine JL_q (wants_none rfl) rfl (ex_lss rfl rfl) ?_
                refine JL_nil ?_
                refine N_then ?_
                refine J_if rfl (fun h71 => ?_) (fun h71 => ?_)
                · refine J_skip ?_
                  refine N_then ?_
                  refine J_seq ?_
                  refine J_block ?_
                  refine J_seq ?_
                  refine J_region ?_
                  refine JL_q (wants_none rfl) rfl (ex_move rfl) ?_
                  refine JL_q (wants_none rfl) rfl (ex_move rfl) ?_
                  refine JL_q (wants_none rfl) rfl (ex_move rfl) ?_
                  refine JL_bnd fun y72 hy73 => ?_
                  refine JL_od_open (v := x65_0) 6 rfl hy73 ?_; rintro b74 cap75 rfl
                  refine JL_q (wants_none rfl) rfl (ex_od 6 rfl (ex_index_ow 6 Try.underlying33 ti_23 rfl rfl rfl hy73)) ?_
                  refine JL_st (wants_none rfl) rfl (st_od 6 rfl (st_load_ow_o 6 (opens_sl _) ti_23 rfl rfl hy73) (fun _ => rfl)) (fun v76 => ?_)
                  refine JL_bnd fun r77 hr78 => ?_
                  refine JL_call (wants_none rfl) rfl Try.call45 rfl (Ca_of0 fun w hh => c_spec_l10Key _ w (fun _ hk => hk.elim) _ _ (hh.rd0 0 rfl) _ hr78) (fun _ => ?_)
                  refine JL_inline (wants_none rfl) rfl Try.call47 rfl Try.func47 rfl Try.ntmps47 rfl rfl (fun K_ hK79 => ?_)
                  refine J_seq ?_
                  refine J_region ?_
                  refine JL_q (wants_none rfl) rfl (ex_assign rfl) ?_
                  refine JL_q (wants_none rfl) rfl (ex_assign rfl) ?_
                  refine JL_nil ?_
                  refine N_then ?_
                  refine J_seq ?_
                  refine J_region ?_
                  refine JL_q (wants_none rfl) rfl (ex_assign rfl) ?_
                  refine JL_nil ?_
                  refine N_then ?_
                  refine J_seq ?_
                  refine J_region ?_
                  refine JL_q (wants_none rfl) rfl (ex_move rfl) ?_
                  refine JL_q (wants_none rfl) rfl (ex_len_ow 6 Try.underlying74 rfl rfl) ?_
                  refine JL_q (wants_none rfl) rfl (ex_assign rfl) ?_
                  refine JL_nil ?_
                  refine N_then ?_
                  refine J_seq ?_
                  refine J_loop' (S := Int × Int) (G := Unit) (F_spec_DerivationOf_L4 s69 r77) (fun s80 _ => [(0, g70_3), (1, .string r77), (6, .int .i64 s80.1), (7, .int .i64 s80.2)]) (fun s80 _ => [.ow 9 g70_3 s69.2.2.2.1, .rd v2_ p2, .rd v0_ p0, .ow 23 g70_0 s69.1, .ow 2 g70_1 s69.2.1, .ow 23 g70_2 s69.2.2.1, .bx b22 52 [g70_0, g70_1, g70_2, .bool s66], .od 23 (.slice (some ⟨b74, 0, none⟩) r63.1.length cap75) r63.1 x65_1, .od 23 x65_2 r63.2.1 x65_3]) (0, (s69.2.2.2.1.length : Int)) () ⟨rfl, rfl, rfl, rfl, trivial⟩ [6, 9, 1, 2, 3, 4, 5, 7, 8] rfl rfl (fun s80 g81 => ?_) (fun s80 g81 => ?_)
                  · unfold F_spec_DerivationOf_L4
                    refine J_seq ?_
                    refine J_seq ?_
                    refine J_region ?_
                    refine JL_q (wants_none rfl) rfl (ex_move rfl) ?_
                    refine JL_q (wants_none rfl) rfl (ex_move rfl) ?_
                    refine JL_q (wants_none rfl) rfl (ex_lss rfl rfl) ?_
                    refine JL_nil ?_
                    refine N_then ?_
                    refine J_if rfl (fun h82 => ?_) (fun h82 => ?_)
                    · refine J_skip ?_
                      refine N_then ?_
                      refine J_block ?_
                      refine J_seq ?_
                      refine J_region ?_
                      refine JL_q (wants_none rfl) rfl (ex_move rfl) ?_
                      refine JL_q (wants_none rfl) rfl (ex_move rfl) ?_
                      refine JL_q (wants_none rfl) rfl (ex_add rfl rfl) ?_
                      refine JL_q (wants_none rfl) rfl (ex_quo rfl rfl (by decide)) ?_
                      refine JL_q (wants_none rfl) rfl (ex_assign rfl) ?_
                      refine JL_nil ?_
                      refine N_then ?_
                      refine J_seq ?_
                      refine J_region ?_
                      refine JL_q (wants_none rfl) rfl (ex_move rfl) ?_
                      refine JL_q (wants_none rfl) rfl (ex_move rfl) ?_
                      refine JL_bnd fun y83 hy84 => ?_
                      refine JL_ow_open (v := g70_3) 0 rfl hy84 ?_; rintro b85 cap86 rfl
                      refine JL_q (wants_none rfl) rfl (ex_index_ow 0 Try.underlying74 ti_9 rfl rfl rfl hy84) ?_
                      refine JL_st (wants_none rfl) rfl (st_load_ow_o 0 (opens_str _) ti_9 rfl rfl hy84) (fun _ => ?_)
                      refine JL_q (wants_none rfl) rfl (ex_move rfl) ?_
                      refine JL_q (wants_none rfl) rfl (ex_lss_str rfl rfl) ?_
                      refine JL_nil ?_
                      refine N_then ?_
                      refine J_if rfl (fun h88 => ?_) (fun h88 => ?_)
                      · refine J_region ?_
                        refine JL_q (wants_none rfl) rfl (ex_move rfl) ?_
                        refine JL_q (wants_none rfl) rfl (ex_add rfl rfl) ?_
                        refine JL_q (wants_none rfl) rfl (ex_assign rfl) ?_
                        refine JL_nil ?_
                        refine N_block ?_
                        exact N_next' () ⟨rfl, rfl, rfl, rfl, trivial⟩ [0, 1, 2, 3, 4, 5, 6, 7, 8] rfl rfl
                      · refine J_region ?_
                        refine JL_q (wants_none rfl) rfl (ex_move rfl) ?_
                        refine JL_q (wants_none rfl) rfl (ex_assign rfl) ?_
                        refine JL_nil ?_
                        refine N_block ?_
                        exact N_next' () ⟨rfl, rfl, rfl, rfl, trivial⟩ [0, 1, 2, 3, 4, 5, 6, 7, 8] rfl rfl
                    · refine J_exit ?_
                      refine N_then_exit ?_
                      exact N_break' () ⟨rfl, rfl, rfl, rfl, trivial⟩ [0, 1, 2, 3, 4, 5, 6, 7, 8] rfl rfl
                  · refine N_then ?_
                    refine J_seq ?_
                    refine J_cut' (S' := Unit) (G' := Unit) (fun _ _ => [(0, g70_3), (1, .string r77), (6, .int .i64 s80.1)]) (fun _ _ => [.ow 9 g70_3 s69.2.2.2.1, .rd v2_ p2, .rd v0_ p0, .ow 23 g70_0 s69.1, .ow 2 g70_1 s69.2.1, .ow 23 g70_2 s69.2.2.1, .bx b22 52 [g70_0, g70_1, g70_2, .bool s66], .od 23 (.slice (some ⟨b74, 0, none⟩) r63.1.length cap75) r63.1 x65_1, .od 23 x65_2 r63.2.1 x65_3]) ?_ (fun s89 g90 => ?_)
                    · refine J_seq ?_
                      refine J_region ?_
                      refine JL_q (wants_none rfl) rfl (ex_move rfl) ?_
                      refine JL_q (wants_none rfl) rfl (ex_move rfl) ?_
                      refine JL_q (wants_none rfl) rfl (ex_len_ow 0 Try.underlying74 rfl rfl) ?_
                      refine JL_q (wants_none rfl) rfl (ex_lss rfl rfl) ?_
                      refine JL_q (wants_none rfl) rfl (ex_move rfl) ?_
                      refine JL_cond (fun h91 => ?_) (fun h91 => ?_)
                      · refine JL_q (wants_some rfl rfl rfl h91) rfl (ex_move rfl) ?_
                        refine JL_q (wants_some rfl rfl rfl h91) rfl (ex_move rfl) ?_
                        refine JL_bnd fun y92 hy93 => ?_
                        refine JL_ow_open (v := g70_3) 0 rfl hy93 ?_; rintro b94 cap95 rfl
                        refine JL_q (wants_some rfl rfl rfl h91) rfl (ex_index_ow 0 Try.underlying74 ti_9 rfl rfl rfl hy93) ?_
                        refine JL_st (wants_some rfl rfl rfl h91) rfl (st_load_ow_o 0 (opens_str _) ti_9 rfl rfl hy93) (fun _ => ?_)
                        refine JL_q (wants_some rfl rfl rfl h91) rfl (ex_move rfl) ?_
                        refine JL_q (wants_some rfl rfl rfl h91) rfl (ex_eql_str rfl rfl) ?_
                        refine JL_q (wants_none rfl) rfl (ex_pick_true rfl h91 rfl) ?_
                        refine JL_nil ?_
                        refine N_then ?_
                        refine J_if rfl (fun h97 => ?_) (fun h97 => ?_)
                        · refine J_seq ?_
                          refine J_region ?_
                          refine JL_q (wants_none rfl) rfl (ex_move rfl) ?_
                          refine JL_q (wants_none rfl) rfl (ex_assign rfl) ?_
                          refine JL_q (wants_none rfl) rfl (ex_assign rfl) ?_
                          refine JL_nil ?_
                          refine N_then ?_
                          refine J_ret ?_
                          refine N_mid_reti ?_
                          refine N_then_ret ?_
                          refine N_inl2 hK79 rfl (rv_tmp rfl) (rv_tmp rfl) ?_
                          refine JL_q (wants_none rfl) rfl (ex_move rfl) ?_
                          refine JL_q (wants_none rfl) rfl (ex_extract rfl rfl) ?_
                          refine JL_q (wants_none rfl) rfl (ex_extract rfl rfl) ?_
                          refine JL_q (wants_none rfl) rfl (ex_assign rfl) ?_
                          refine JL_q (wants_none rfl) rfl (ex_assign rfl) ?_
                          refine JL_nil ?_
                          refine N_then ?_
                          refine J_seq ?_
                          refine J_region ?_
                          refine JL_q (wants_none rfl) rfl (ex_move rfl) ?_
                          refine JL_q (wants_none rfl) rfl (ex_assign rfl) ?_
                          refine JL_nil ?_
                          refine N_then ?_
                          refine J_seq ?_
                          refine J_seq ?_
                          refine J_region ?_
                          refine JL_q (wants_none rfl) rfl (ex_move rfl) ?_
                          refine JL_q (wants_none rfl) rfl (ex_not rfl) ?_
                          refine JL_nil ?_
                          refine N_then ?_
                          refine J_if_true rfl (by rw [show (false) = false from rfl]; rfl) ?_
                          refine J_exit ?_
                          refine N_then_exit ?_
                          refine N_block_exit ?_
                          refine N_then ?_
                          refine J_region ?_
                          refine JL_q (wants_none rfl) rfl (ex_move rfl) ?_
                          refine JL_q (wants_none rfl) rfl (ex_add rfl rfl) ?_
                          refine JL_q (wants_none rfl) rfl (ex_assign rfl) ?_
                          refine JL_nil ?_
                          exact N_next' (g70_0, g70_1, g70_2, (.slice (some ⟨b94, 0, none⟩) s69.2.2.2.1.length cap95)) ⟨rfl, rfl, rfl, rfl, rfl, rfl, rfl, rfl, trivial⟩ [2, 3, 4, 5, 6, 0, 7, 8, 1] rfl rfl
                        · refine J_skip ?_
                          exact N_meet' () ⟨rfl, rfl, rfl, trivial⟩ [0, 1, 2, 3, 4, 5, 6, 7, 8] rfl rfl
                      · refine JL_passed rfl rfl rfl h91 ?_
                        refine JL_passed rfl rfl rfl h91 ?_
                        refine JL_passed rfl rfl rfl h91 ?_
                        refine JL_passed rfl rfl rfl h91 ?_
                        refine JL_passed rfl rfl rfl h91 ?_
                        refine JL_passed rfl rfl rfl h91 ?_
                        refine JL_q (wants_none rfl) rfl (ex_pick_false rfl h91 rfl) ?_
                        refine JL_nil ?_
                        refine N_then ?_
                        refine J_if_false rfl rfl ?_
                        refine J_skip ?_
                        exact N_meet' () ⟨rfl, rfl, rfl, trivial⟩ [0, 1, 2, 3, 4, 5, 6, 7, 8] rfl rfl
                    · refine N_then ?_
                      refine J_seq ?_
                      refine J_region ?_
                      refine JL_q (wants_none rfl) rfl (ex_move rfl) ?_
                      refine JL_st (wants_none rfl) rfl (st_buildSlice (vs := [.string (⟨#[]⟩ : ByteArray)]) ([(⟨#[]⟩ : ByteArray)] : List ByteArray) Try.underlying74 ti_9 zi_9 rfl rfl rfl (fun w hh => ⟨(Rd.mk_str _ _ _), trivial⟩)) (fun b98 => ?_)
                      refine JL_bnd fun z99 hz100 => ?_
                      refine JL_st (wants_none rfl) rfl (st_append 1 Try.underlying74 ti_9 zi_9 rfl bi_9 rfl rfl rfl rfl (fun w hh => hh.src_ow 0 rfl) hz100) (fun v101 => ?_)
                      refine JL_q (wants_none rfl) rfl (ex_assign rfl) ?_
                      refine JL_nil ?_
                      refine N_then ?_
                      refine J_seq ?_
                      refine J_draw [1] (by kernel_rfl) ?_
                      refine JP_take (i := 0) [0, 2, 3, 4, 5, 6, 7, 8, 9] [1] rfl (by kernel_rfl) (by kernel_rfl) (by kernel_rfl) rfl rfl (wants_none rfl) rfl (ex_move rfl) ?_
                      refine JP_take (i := 1) [0, 2, 3, 4, 5, 6, 7, 8, 9] [1] rfl (by kernel_rfl) (by kernel_rfl) (by kernel_rfl) rfl rfl (wants_none rfl) rfl (ex_move rfl) ?_
                      refine JP_take (i := 2) [0, 2, 3, 4, 5, 6, 7, 8, 9] [1] rfl (by kernel_rfl) (by kernel_rfl) (by kernel_rfl) rfl rfl (wants_none rfl) rfl (ex_add rfl rfl) ?_
                      refine JP_take (i := 4) [0, 2, 3, 4, 5, 6, 7, 8, 9] [1] rfl (by kernel_rfl) (by kernel_rfl) (by kernel_rfl) rfl rfl (wants_none rfl) rfl (ex_move rfl) ?_
                      refine JP_take (i := 5) [0, 2, 3, 4, 5, 6, 7, 8, 9] [1] rfl (by kernel_rfl) (by kernel_rfl) (by kernel_rfl) rfl rfl (wants_none rfl) rfl (ex_move rfl) ?_
                      refine JP_go [0, 2, 3, 4, 5, 6, 7, 8, 9] [1] rfl rfl rfl (fun w103 h1_104 hp102 => ?_)
                      refine JD_bnd fun z105 hz106 => ?_
                      refine JD_bnd fun z107 hz108 => ?_
                      refine JD_two (i := 3) (j := 6) (by kernel_rfl) ?_ ?_
                      · refine JO_q rfl (wants_none rfl) rfl (ex_slice_ow 1 Try.underlying74 ti_9 rfl rfl rfl rfl hz106) ?_
                        refine JD_one (i := 6) (by kernel_rfl) ?_
                        refine JO_q rfl (wants_none rfl) rfl (ex_slice_ow 1 Try.underlying74 ti_9 rfl rfl rfl rfl hz108) ?_
                        refine JD_one (i := 7) (by kernel_rfl) ?_
                        refine JO_st rfl (wants_none rfl) rfl (st_copy_at 1 rfl Try.underlying74 ti_9 rfl rfl rfl hz106 (fun w hh => hh.src_own 1 rfl hz108)) (sub_ow 0 rfl) (fun _ => ?_)
                        refine JD_done (by kernel_rfl) ?_
                        refine N_then ?_
                        refine J_seq ?_
                        refine J_region ?_
                        refine JL_q (wants_none rfl) rfl (ex_move rfl) ?_
                        refine JL_q (wants_none rfl) rfl (ex_move rfl) ?_
                        refine JL_q (wants_none rfl) rfl (ex_move rfl) ?_
                        refine JL_bnd fun y109 hy110 => ?_
                        refine JL_ow_open (v := v101) 1 rfl hy110 ?_; rintro b111 cap112 rfl
                        refine JL_q (wants_none rfl) rfl (ex_index_ow 1 Try.underlying74 ti_9 rfl rfl rfl hy110) ?_
                        refine JL_sk (wants_none rfl) (sk_store_ow 1 ti_9 rfl rfl rfl hy110 (fun w hh => (Rd.mk_str _ _ _))) ?_
                        refine JL_nil ?_
                        refine N_then ?_
                        refine J_seq ?_
                        refine J_region ?_
                        refine JL_q (wants_none rfl) rfl (ex_move rfl) ?_
                        refine JL_q (wants_none rfl) rfl (ex_assign rfl) ?_
                        refine JL_q (wants_none rfl) rfl (ex_assign rfl) ?_
                        refine JL_nil ?_
                        refine N_then ?_
                        refine J_ret ?_
                        refine N_inl2 hK79 rfl (rv_tmp rfl) (rv_tmp rfl) ?_
                        refine JL_q (wants_none rfl) rfl (ex_move rfl) ?_
                        refine JL_q (wants_none rfl) rfl (ex_extract rfl rfl) ?_
                        refine JL_q (wants_none rfl) rfl (ex_extract rfl rfl) ?_
                        refine JL_q (wants_none rfl) rfl (ex_assign rfl) ?_
                        refine JL_q (wants_none rfl) rfl (ex_assign rfl) ?_
                        refine JL_nil ?_
                        refine N_then ?_
                        refine J_seq ?_
                        refine J_region ?_
                        refine JL_q (wants_none rfl) rfl (ex_move rfl) ?_
                        refine JL_q (wants_none rfl) rfl (ex_assign rfl) ?_
                        refine JL_nil ?_
                        refine N_then ?_
                        refine J_seq ?_
                        refine J_seq ?_
                        refine J_region ?_
                        refine JL_q (wants_none rfl) rfl (ex_move rfl) ?_
                        refine JL_q (wants_none rfl) rfl (ex_not rfl) ?_
                        refine JL_nil ?_
                        refine N_then ?_
                        refine J_if_false rfl (by rw [show (true) = true from rfl]; rfl) ?_
                        refine J_skip ?_
                        refine N_then ?_
                        refine J_seq ?_
                        refine J_cut' (S' := (List (List Int))) (G' := Value) (fun s113 g114 => [(0, v0_), (2, .int .i64 p3), (7, .pointer (some ⟨b22, 0, none⟩)), (8, (.slice (some ⟨b111, 0, none⟩) (cpyAt z99 (w64 (s80.1 + 1)) (z99.length : Int) z107).length cap112)), (9, .int .i64 s26.2.2.2.2.2), (10, (.slice (some ⟨b74, 0, none⟩) r63.1.length cap75)), (11, x65_2), (13, .int .i64 s69.2.2.2.2)]) (fun s113 g114 => [.rd v0_ p0, .ow 23 g114 s113, .ow 2 g70_1 s69.2.1, .ow 23 g70_2 s69.2.2.1, .bx b22 52 [g114, g70_1, g70_2, .bool s66], .ow 9 (.slice (some ⟨b111, 0, none⟩) (cpyAt z99 (w64 (s80.1 + 1)) (z99.length : Int) z107).length cap112) ((cpyAt z99 (w64 (s80.1 + 1)) (z99.length : Int) z107).set s80.1.toNat r77), .od 23 (.slice (some ⟨b74, 0, none⟩) r63.1.length cap75) r63.1 x65_1, .od 23 x65_2 r63.2.1 x65_3, .rd v2_ p2]) ?_ (fun s113 g114 => ?_)
                        · refine J_draw [4, 7] (by kernel_rfl) ?_
                          refine JP_take (i := 0) [0, 1, 2, 3, 5, 6, 8, 9] [4, 7] rfl (by kernel_rfl) (by kernel_rfl) (by kernel_rfl) rfl rfl (wants_none rfl) rfl (ex_move rfl) ?_
                          refine JP_take (i := 1) [0, 1, 2, 3, 5, 6, 8, 9] [4, 7] rfl (by kernel_rfl) (by kernel_rfl) (by kernel_rfl) rfl rfl (wants_none rfl) rfl (ex_move rfl) ?_
                          refine JP_take (i := 2) [0, 1, 2, 3, 5, 6, 8, 9] [4, 7] rfl (by kernel_rfl) (by kernel_rfl) (by kernel_rfl) rfl rfl (wants_none rfl) rfl (ex_nilCheck rfl) ?_
                          refine JP_take (i := 3) [0, 1, 2, 3, 5, 6, 8, 9] [4, 7] rfl (by kernel_rfl) (by kernel_rfl) (by kernel_rfl) rfl rfl (wants_none rfl) rfl (ex_fieldAddr fi_52_0 rfl rfl) ?_
                          refine JP_take (i := 5) [0, 1, 2, 3, 5, 6, 8, 9] [4, 7] rfl (by kernel_rfl) (by kernel_rfl) (by kernel_rfl) rfl rfl (wants_none rfl) rfl (ex_move rfl) ?_
                          refine JP_take (i := 6) [0, 1, 2, 3, 5, 6, 8, 9] [4, 7] rfl (by kernel_rfl) (by kernel_rfl) (by kernel_rfl) rfl rfl (wants_none rfl) rfl (ex_move rfl) ?_
                          refine JP_bnd fun y115 hy116 => ?_
                          refine JP_take (i := 7) [0, 1, 2, 3, 5, 6, 8, 9] [4, 7] rfl (by kernel_rfl) (by kernel_rfl) (by kernel_rfl) rfl rfl (wants_none rfl) rfl (ex_od 6 rfl (ex_index_ow 6 Try.underlying33 ti_23 rfl rfl rfl hy116)) ?_
                          refine JP_go [0, 1, 2, 3, 5, 6, 8, 9] [4, 7] rfl rfl rfl (fun w118 h1_119 hp117 => ?_)
                          refine JD_two (i := 4) (j := 8) (by kernel_rfl) ?_ ?_
                          · refine JO_q rfl (wants_none rfl) rfl (ex_load_bx 7 ti_33 rfl rfl rfl) ?_
                            refine JD_one (i := 8) (by kernel_rfl) ?_
                            refine JO_st rfl (wants_none rfl) rfl (st_od 8 rfl (st_load_ow_o 8 (opens_sl _) ti_23 rfl rfl hy116) (fun _ => rfl)) (fun _ hk => nomatch hk) (fun v120 => ?_)
                            refine JD_one (i := 9) (by kernel_rfl) ?_
                            refine JO_st rfl (wants_none rfl) rfl (st_buildSlice (vs := [v120]) ([y115] : List (List Int)) Try.underlying33 ti_23 zi_23 rfl rfl rfl (fun w hh => ⟨(hh.rd 0 rfl), trivial⟩)) (fun _ hk => nomatch hk) (fun b121 => ?_)
                            refine JD_bnd fun z122 hz123 => ?_
                            refine JD_one (i := 10) (by kernel_rfl) ?_
                            refine JO_st rfl (wants_none rfl) rfl (st_append 6 Try.underlying33 ti_23 zi_23 rfl bi_23 rfl rfl rfl rfl (fun w hh => hh.src_ow 0 rfl) hz123) (sub_ow 0 rfl) (fun v124 => ?_)
                            refine JD_take (i := 11) hp117 rfl (by kernel_rfl) (by kernel_rfl) (by kernel_rfl) (wants_none rfl) rfl (ex_nilCheck rfl) ?_
                            refine JD_take (i := 12) hp117 rfl (by kernel_rfl) (by kernel_rfl) (by kernel_rfl) (wants_none rfl) rfl (ex_fieldAddr fi_52_0 rfl rfl) ?_
                            refine JD_one (i := 13) (by kernel_rfl) ?_
                            refine JO_sk rfl (wants_none rfl) (sk_store_bx' 9 ti_33 rfl rfl (fun w hh => (hh.cv_ow 6 rfl)) rfl rfl rfl rfl) (sub_bx 1 rfl) ?_
                            refine JD_done (by kernel_rfl) ?_
                            exact N_meet' v124 ⟨rfl, rfl, rfl, rfl, rfl, rfl, rfl, rfl, trivial⟩ [5, 6, 7, 8, 9, 3, 10, 11, 4] rfl rfl
                          · refine JO_st rfl (wants_none rfl) rfl (st_od 8 rfl (st_load_ow_o 8 (opens_sl _) ti_23 rfl rfl hy116) (fun _ => rfl)) (fun _ hk => nomatch hk) (fun v125 => ?_)
                            refine JD_two (i := 4) (j := 9) (by kernel_rfl) ?_ ?_
                            · refine JO_q rfl (wants_none rfl) rfl (ex_load_bx 8 ti_33 rfl rfl rfl) ?_
                              refine JD_one (i := 9) (by kernel_rfl) ?_
                              refine JO_st rfl (wants_none rfl) rfl (st_buildSlice (vs := [v125]) ([y115] : List (List Int)) Try.underlying33 ti_23 zi_23 rfl rfl rfl (fun w hh => ⟨(hh.rd 0 rfl), trivial⟩)) (fun _ hk => nomatch hk) (fun b126 => ?_)
                              refine JD_bnd fun z127 hz128 => ?_
                              refine JD_one (i := 10) (by kernel_rfl) ?_
                              refine JO_st rfl (wants_none rfl) rfl (st_append 6 Try.underlying33 ti_23 zi_23 rfl bi_23 rfl rfl rfl rfl (fun w hh => hh.src_ow 0 rfl) hz128) (sub_ow 0 rfl) (fun v129 => ?_)
                              refine JD_take (i := 11) hp117 rfl (by kernel_rfl) (by kernel_rfl) (by kernel_rfl) (wants_none rfl) rfl (ex_nilCheck rfl) ?_
                              refine JD_take (i := 12) hp117 rfl (by kernel_rfl) (by kernel_rfl) (by kernel_rfl) (wants_none rfl) rfl (ex_fieldAddr fi_52_0 rfl rfl) ?_
                              refine JD_one (i := 13) (by kernel_rfl) ?_
                              refine JO_sk rfl (wants_none rfl) (sk_store_bx' 9 ti_33 rfl rfl (fun w hh => (hh.cv_ow 6 rfl)) rfl rfl rfl rfl) (sub_bx 1 rfl) ?_
                              refine JD_done (by kernel_rfl) ?_
                              exact N_meet' v129 ⟨rfl, rfl, rfl, rfl, rfl, rfl, rfl, rfl, trivial⟩ [5, 6, 7, 8, 9, 3, 10, 11, 4] rfl rfl
                            · refine JO_st rfl (wants_none rfl) rfl (st_buildSlice (vs := [v125]) ([y115] : List (List Int)) Try.underlying33 ti_23 zi_23 rfl rfl rfl (fun w hh => ⟨(hh.rd 0 rfl), trivial⟩)) (fun _ hk => nomatch hk) (fun b130 => ?_)
                              refine JD_one (i := 4) (by kernel_rfl) ?_
                              refine JO_q rfl (wants_none rfl) rfl (ex_load_bx 9 ti_33 rfl rfl rfl) ?_
                              refine JD_bnd fun z131 hz132 => ?_
                              refine JD_one (i := 10) (by kernel_rfl) ?_
                              refine JO_st rfl (wants_none rfl) rfl (st_append 6 Try.underlying33 ti_23 zi_23 rfl bi_23 rfl rfl rfl rfl (fun w hh => hh.src_ow 0 rfl) hz132) (sub_ow 0 rfl) (fun v133 => ?_)
                              refine JD_take (i := 11) hp117 rfl (by kernel_rfl) (by kernel_rfl) (by kernel_rfl) (wants_none rfl) rfl (ex_nilCheck rfl) ?_
                              refine JD_take (i := 12) hp117 rfl (by kernel_rfl) (by kernel_rfl) (by kernel_rfl) (wants_none rfl) rfl (ex_fieldAddr fi_52_0 rfl rfl) ?_
                              refine JD_one (i := 13) (by kernel_rfl) ?_
                              refine JO_sk rfl (wants_none rfl) (sk_store_bx' 9 ti_33 rfl rfl (fun w hh => (hh.cv_ow 6 rfl)) rfl rfl rfl rfl) (sub_bx 1 rfl) ?_
                              refine JD_done (by kernel_rfl) ?_
                              exact N_meet' v133 ⟨rfl, rfl, rfl, rfl, rfl, rfl, rfl, rfl, trivial⟩ [5, 6, 7, 8, 9, 3, 10, 11, 4] rfl rfl
                        · refine N_then ?_
                          refine J_seq ?_
                          refine J_region ?_
                          refine JL_q (wants_none rfl) rfl (ex_move rfl) ?_
                          refine JL_q (wants_none rfl) rfl (ex_move rfl) ?_
                          refine JL_q (wants_none rfl) rfl (ex_nilCheck rfl) ?_
                          refine JL_q (wants_none rfl) rfl (ex_fieldAddr fi_52_1 rfl rfl) ?_
                          refine JL_q (wants_none rfl) rfl (ex_load_bx 4 ti_23 rfl rfl rfl) ?_
                          refine JL_q (wants_none rfl) rfl (ex_move rfl) ?_
                          refine JL_st (wants_none rfl) rfl (st_buildSlice (vs := [.int .i64 s26.2.2.2.2.2]) ([s26.2.2.2.2.2] : List Int) Try.underlying23 ti_2 zi_2 rfl rfl rfl (fun w hh => ⟨(Rd.mk_int _ _ _), trivial⟩)) (fun b134 => ?_)
                          refine JL_bnd fun z135 hz136 => ?_
                          refine JL_st (wants_none rfl) rfl (st_append 3 Try.underlying23 ti_2 zi_2 rfl bi_2 rfl rfl rfl rfl (fun w hh => hh.src_ow 0 rfl) hz136) (fun v137 => ?_)
                          refine JL_q (wants_none rfl) rfl (ex_nilCheck rfl) ?_
                          refine JL_q (wants_none rfl) rfl (ex_fieldAddr fi_52_1 rfl rfl) ?_
                          refine JL_sk (wants_none rfl) (sk_store_bx' 5 ti_23 rfl rfl (fun w hh => (hh.cv_ow 3 rfl)) rfl rfl rfl rfl) ?_
                          refine JL_nil ?_
                          refine N_then ?_
                          refine J_seq ?_
                          refine J_cut' (S' := (List (List Int))) (G' := Value) (fun s138 g139 => [(0, v0_), (2, .int .i64 p3), (7, .pointer (some ⟨b22, 0, none⟩)), (8, (.slice (some ⟨b111, 0, none⟩) (cpyAt z99 (w64 (s80.1 + 1)) (z99.length : Int) z107).length cap112)), (9, .int .i64 s26.2.2.2.2.2), (10, (.slice (some ⟨b74, 0, none⟩) r63.1.length cap75)), (11, x65_2), (13, .int .i64 s69.2.2.2.2)]) (fun s138 g139 => [.rd v0_ p0, .ow 23 g114 s113, .ow 2 v137 z135, .ow 23 g139 s138, .bx b22 52 [g114, v137, g139, .bool s66], .ow 9 (.slice (some ⟨b111, 0, none⟩) (cpyAt z99 (w64 (s80.1 + 1)) (z99.length : Int) z107).length cap112) ((cpyAt z99 (w64 (s80.1 + 1)) (z99.length : Int) z107).set s80.1.toNat r77), .od 23 (.slice (some ⟨b74, 0, none⟩) r63.1.length cap75) r63.1 x65_1, .od 23 x65_2 r63.2.1 x65_3, .rd v2_ p2]) ?_ (fun s138 g139 => ?_)
                          · refine J_draw [4, 5, 8] (by kernel_rfl) ?_
                            refine JP_take (i := 0) [0, 1, 2, 3, 6, 7, 9] [4, 5, 8] rfl (by kernel_rfl) (by kernel_rfl) (by kernel_rfl) rfl rfl (wants_none rfl) rfl (ex_move rfl) ?_
                            refine JP_take (i := 1) [0, 1, 2, 3, 6, 7, 9] [4, 5, 8] rfl (by kernel_rfl) (by kernel_rfl) (by kernel_rfl) rfl rfl (wants_none rfl) rfl (ex_move rfl) ?_
                            refine JP_take (i := 2) [0, 1, 2, 3, 6, 7, 9] [4, 5, 8] rfl (by kernel_rfl) (by kernel_rfl) (by kernel_rfl) rfl rfl (wants_none rfl) rfl (ex_nilCheck rfl) ?_
                            refine JP_take (i := 3) [0, 1, 2, 3, 6, 7, 9] [4, 5, 8] rfl (by kernel_rfl) (by kernel_rfl) (by kernel_rfl) rfl rfl (wants_none rfl) rfl (ex_fieldAddr fi_52_2 rfl rfl) ?_
                            refine JP_take (i := 5) [0, 1, 2, 3, 6, 7, 9] [4, 5, 8] rfl (by kernel_rfl) (by kernel_rfl) (by kernel_rfl) rfl rfl (wants_none rfl) rfl (ex_move rfl) ?_
                            refine JP_take (i := 6) [0, 1, 2, 3, 6, 7, 9] [4, 5, 8] rfl (by kernel_rfl) (by kernel_rfl) (by kernel_rfl) rfl rfl (wants_none rfl) rfl (ex_move rfl) ?_
                            refine JP_bnd fun y140 hy141 => ?_
                            refine JP_od_open (v := x65_2) 8 rfl hy141 ?_; rintro b142 cap143 rfl
                            refine JP_take (i := 7) [0, 1, 2, 3, 6, 7, 9] [4, 5, 8] rfl (by kernel_rfl) (by kernel_rfl) (by kernel_rfl) rfl rfl (wants_none rfl) rfl (ex_index_own Try.underlying33 ti_23 rfl rfl hy141 (by first | rfl | simp)) ?_
                            refine JP_go [0, 1, 2, 3, 6, 7, 9] [4, 5, 8] rfl rfl rfl (fun w145 h1_146 hp144 => ?_)
                            refine JD_two (i := 4) (j := 8) (by kernel_rfl) ?_ ?_
                            · refine JO_q rfl (wants_none rfl) rfl (ex_load_bx 5 ti_33 rfl rfl rfl) ?_
                              refine JD_one (i := 8) (by kernel_rfl) ?_
                              refine JO_st rfl (wants_none rfl) rfl (st_od 8 rfl (st_load_ow_o 8 (opens_sl _) ti_23 rfl rfl hy141) (fun _ => rfl)) (fun _ hk => nomatch hk) (fun v147 => ?_)
                              refine JD_one (i := 9) (by kernel_rfl) ?_
                              refine JO_st rfl (wants_none rfl) rfl (st_buildSlice (vs := [v147]) ([y140] : List (List Int)) Try.underlying33 ti_23 zi_23 rfl rfl rfl (fun w hh => ⟨(hh.rd 0 rfl), trivial⟩)) (fun _ hk => nomatch hk) (fun b148 => ?_)
                              refine JD_bnd fun z149 hz150 => ?_
                              refine JD_one (i := 10) (by kernel_rfl) ?_
                              refine JO_st rfl (wants_none rfl) rfl (st_append 6 Try.underlying33 ti_23 zi_23 rfl bi_23 rfl rfl rfl rfl (fun w hh => hh.src_ow 0 rfl) hz150) (sub_ow 0 rfl) (fun v151 => ?_)
                              refine JD_take (i := 11) hp144 rfl (by kernel_rfl) (by kernel_rfl) (by kernel_rfl) (wants_none rfl) rfl (ex_nilCheck rfl) ?_
                              refine JD_take (i := 12) hp144 rfl (by kernel_rfl) (by kernel_rfl) (by kernel_rfl) (wants_none rfl) rfl (ex_fieldAddr fi_52_2 rfl rfl) ?_
                              refine JD_one (i := 13) (by kernel_rfl) ?_
                              refine JO_sk rfl (wants_none rfl) (sk_store_bx' 7 ti_33 rfl rfl (fun w hh => (hh.cv_ow 6 rfl)) rfl rfl rfl rfl) (sub_bx 1 rfl) ?_
                              refine JD_done (by kernel_rfl) ?_
                              exact N_meet' v151 ⟨rfl, rfl, rfl, rfl, rfl, rfl, rfl, rfl, trivial⟩ [3, 4, 5, 6, 7, 8, 9, 10, 11] rfl rfl
                            · refine JO_st rfl (wants_none rfl) rfl (st_od 8 rfl (st_load_ow_o 8 (opens_sl _) ti_23 rfl rfl hy141) (fun _ => rfl)) (fun _ hk => nomatch hk) (fun v152 => ?_)
                              refine JD_two (i := 4) (j := 9) (by kernel_rfl) ?_ ?_
                              · refine JO_q rfl (wants_none rfl) rfl (ex_load_bx 6 ti_33 rfl rfl rfl) ?_
                                refine JD_one (i := 9) (by kernel_rfl) ?_
                                refine JO_st rfl (wants_none rfl) rfl (st_buildSlice (vs := [v152]) ([y140] : List (List Int)) Try.underlying33 ti_23 zi_23 rfl rfl rfl (fun w hh => ⟨(hh.rd 0 rfl), trivial⟩)) (fun _ hk => nomatch hk) (fun b153 => ?_)
                                refine JD_bnd fun z154 hz155 => ?_
                                refine JD_one (i := 10) (by kernel_rfl) ?_
                                refine JO_st rfl (wants_none rfl) rfl (st_append 6 Try.underlying33 ti_23 zi_23 rfl bi_23 rfl rfl rfl rfl (fun w hh => hh.src_ow 0 rfl) hz155) (sub_ow 0 rfl) (fun v156 => ?_)
                                refine JD_take (i := 11) hp144 rfl (by kernel_rfl) (by kernel_rfl) (by kernel_rfl) (wants_none rfl) rfl (ex_nilCheck rfl) ?_
                                refine JD_take (i := 12) hp144 rfl (by kernel_rfl) (by kernel_rfl) (by kernel_rfl) (wants_none rfl) rfl (ex_fieldAddr fi_52_2 rfl rfl) ?_
                                refine JD_one (i := 13) (by kernel_rfl) ?_
                                refine JO_sk rfl (wants_none rfl) (sk_store_bx' 7 ti_33 rfl rfl (fun w hh => (hh.cv_ow 6 rfl)) rfl rfl rfl rfl) (sub_bx 1 rfl) ?_
                                refine JD_done (by kernel_rfl) ?_
                                exact N_meet' v156 ⟨rfl, rfl, rfl, rfl, rfl, rfl, rfl, rfl, trivial⟩ [3, 4, 5, 6, 7, 8, 9, 10, 11] rfl rfl
                              · refine JO_st rfl (wants_none rfl) rfl (st_buildSlice (vs := [v152]) ([y140] : List (List Int)) Try.underlying33 ti_23 zi_23 rfl rfl rfl (fun w hh => ⟨(hh.rd 0 rfl), trivial⟩)) (fun _ hk => nomatch hk) (fun b157 => ?_)
                                refine JD_one (i := 4) (by kernel_rfl) ?_
                                refine JO_q rfl (wants_none rfl) rfl (ex_load_bx 7 ti_33 rfl rfl rfl) ?_
                                refine JD_bnd fun z158 hz159 => ?_
                                refine JD_one (i := 10) (by kernel_rfl) ?_
                                refine JO_st rfl (wants_none rfl) rfl (st_append 6 Try.underlying33 ti_23 zi_23 rfl bi_23 rfl rfl rfl rfl (fun w hh => hh.src_ow 0 rfl) hz159) (sub_ow 0 rfl) (fun v160 => ?_)
                                refine JD_take (i := 11) hp144 rfl (by kernel_rfl) (by kernel_rfl) (by kernel_rfl) (wants_none rfl) rfl (ex_nilCheck rfl) ?_
                                refine JD_take (i := 12) hp144 rfl (by kernel_rfl) (by kernel_rfl) (by kernel_rfl) (wants_none rfl) rfl (ex_fieldAddr fi_52_2 rfl rfl) ?_
                                refine JD_one (i := 13) (by kernel_rfl) ?_
                                refine JO_sk rfl (wants_none rfl) (sk_store_bx' 7 ti_33 rfl rfl (fun w hh => (hh.cv_ow 6 rfl)) rfl rfl rfl rfl) (sub_bx 1 rfl) ?_
                                refine JD_done (by kernel_rfl) ?_
                                exact N_meet' v160 ⟨rfl, rfl, rfl, rfl, rfl, rfl, rfl, rfl, trivial⟩ [3, 4, 5, 6, 7, 8, 9, 10, 11] rfl rfl
                          · refine N_then ?_
                            refine J_seq ?_
                            refine J_region ?_
                            refine JL_q (wants_none rfl) rfl (ex_move rfl) ?_
                            refine JL_q (wants_none rfl) rfl (ex_nilCheck rfl) ?_
                            refine JL_q (wants_none rfl) rfl (ex_fieldAddr fi_52_0 rfl rfl) ?_
                            refine JL_q (wants_none rfl) rfl (ex_load_bx 4 ti_33 rfl rfl rfl) ?_
                            refine JL_q (wants_none rfl) rfl (ex_len_ow 1 Try.underlying33 rfl rfl) ?_
                            refine JL_q (wants_none rfl) rfl (ex_eql rfl rfl) ?_
                            refine JL_nil ?_
                            refine N_then ?_
                            refine J_if rfl (fun h161 => ?_) (fun h161 => ?_)
                            · refine J_seq ?_
                              refine J_region ?_
                              refine JL_q (wants_none rfl) rfl (ex_move rfl) ?_
                              refine JL_q (wants_none rfl) rfl (ex_nilCheck rfl) ?_
                              refine JL_q (wants_none rfl) rfl (ex_fieldAddr fi_52_3 rfl rfl) ?_
                              refine JL_sk (wants_none rfl) (sk_store_bx' 4 ti_4 rfl rfl (fun w hh => cv_bool) rfl rfl rfl rfl) ?_
                              refine JL_nil ?_
                              refine N_then ?_
                              refine J_seq ?_
                              refine J_region ?_
                              refine JL_q (wants_none rfl) rfl (ex_move rfl) ?_
                              refine JL_q (wants_none rfl) rfl (ex_assign rfl) ?_
                              refine JL_nil ?_
                              refine N_then ?_
                              refine J_ret ?_
                              refine N_block_ret ?_
                              refine N_then_ret ?_
                              refine N_round_ret ?_
                              refine N_block_ret ?_
                              refine N_then_ret ?_
                              refine N_round_reti ?_
                              refine N_then_ret ?_
                              refine N_inl1 hK15 rfl (rv_tmp rfl) ?_
                              refine JL_q (wants_none rfl) rfl (ex_assign rfl) ?_
                              refine JL_nil ?_
                              refine N_then ?_
                              refine J_seq ?_
                              refine J_region ?_
                              refine JL_q (wants_none rfl) rfl (ex_move rfl) ?_
                              refine JL_q (wants_none rfl) rfl (ex_nilCheck rfl) ?_
                              refine JL_q (wants_none rfl) rfl (ex_fieldAddr fi_52_0 rfl rfl) ?_
                              refine JL_q (wants_none rfl) rfl (ex_load_bx 4 ti_33 rfl rfl rfl) ?_
                              refine JL_q (wants_none rfl) rfl (ex_move rfl) ?_
                              refine JL_bnd fun r162 hr163 => ?_
                              refine JL_call (wants_none rfl) rfl Try.call30 rfl (Ca_of0 fun w hh => c_spec_l10Row _ w (fun _ hk => hk.elim) _ _ (hh.ow0 1 rfl) _ _ (hh.rd0 8 rfl) _ hr163) (fun _ => ?_)
                              refine JL_q (wants_none rfl) rfl (ex_assign rfl) ?_
                              refine JL_nil ?_
                              refine N_then ?_
                              refine J_seq ?_
                              refine J_cut' (S' := Unit) (G' := Unit) (fun _ _ => [(10, .pointer (some ⟨b22, 0, none⟩)), (11, .int .i64 r162)]) (fun _ _ => [.ow 23 g114 s113, .ow 2 v137 z135, .ow 23 g139 s138, .bx b22 52 [g114, v137, g139, .bool false]]) ?_ (fun s164 g165 => ?_)
                              · refine J_seq ?_
                                refine J_region ?_
                                refine JL_q (wants_none rfl) rfl (ex_move rfl) ?_
                                refine JL_q (wants_none rfl) rfl (ex_lss rfl rfl) ?_
                                refine JL_q (wants_none rfl) rfl (ex_move rfl) ?_
                                refine JL_cond (fun h166 => ?_) (fun h166 => ?_)
                                · refine JL_q (wants_some rfl rfl rfl h166) rfl (ex_move rfl) ?_
                                  refine JL_q (wants_some rfl rfl rfl h166) rfl (ex_nilCheck rfl) ?_
                                  refine JL_q (wants_some rfl rfl rfl h166) rfl (ex_fieldAddr fi_52_3 rfl rfl) ?_
                                  refine JL_q (wants_some rfl rfl rfl h166) rfl (ex_load_bx 4 ti_4 rfl rfl rfl) ?_
                                  refine JL_q (wants_none rfl) rfl (ex_pick_true rfl h166 rfl) ?_
                                  refine JL_nil ?_
                                  refine N_then ?_
                                  refine J_if_false rfl rfl ?_
                                  refine J_skip ?_
                                  exact N_meet' () ⟨rfl, rfl, trivial⟩ [1, 2, 3, 4] rfl rfl
                                · refine JL_passed rfl rfl rfl h166 ?_
                                  refine JL_passed rfl rfl rfl h166 ?_
                                  refine JL_passed rfl rfl rfl h166 ?_
                                  refine JL_passed rfl rfl rfl h166 ?_
                                  refine JL_q (wants_none rfl) rfl (ex_pick_false rfl h166 rfl) ?_
                                  refine JL_nil ?_
                                  refine N_then ?_
                                  refine J_if_false rfl rfl ?_
                                  refine J_skip ?_
                                  exact N_meet' () ⟨rfl, rfl, trivial⟩ [1, 2, 3, 4] rfl rfl
                              · refine N_then ?_
                                refine J_seq ?_
                                refine J_seq ?_
                                refine J_region ?_
                                refine JL_q (wants_none rfl) rfl (ex_move rfl) ?_
                                refine JL_q (wants_none rfl) rfl (ex_lss rfl rfl) ?_
                                refine JL_nil ?_
                                refine N_then ?_
                                refine J_if rfl (fun h167 => ?_) (fun h167 => ?_)
                                · refine J_seq ?_
                                  refine J_region ?_
                                  refine JL_q (wants_none rfl) rfl (ex_assign rfl) ?_
                                  refine JL_q (wants_none rfl) rfl (ex_assign rfl) ?_
                                  refine JL_nil ?_
                                  refine N_then ?_
                                  refine J_ret ?_
                                  refine N_then_ret ?_
                                  refine N_ctx (fun w hh => SH.od_nil (α := (List Int)) 23 hh) ?_
                                  exact N_ret2 rfl (rv_tmp rfl) (rv_tmp rfl) (fun w hh => ⟨((.slice none 0 0 : Value), ([] : List Nat)), rfl, hh.sel [0] rfl⟩)
                                · refine J_skip ?_
                                  refine N_then ?_
                                  refine J_seq ?_
                                  refine J_region ?_
                                  refine JL_st (wants_none rfl) rfl (st_buildSlice_od (vs := []) (B := ([] : List Nat)) ([] : List (List Int)) [] Try.underlying33 ti_23 zi_23 rfl rfl rfl rfl rfl (fun w hh => dwv_nil)) (fun b168 => ?_)
                                  refine JL_q (wants_none rfl) rfl (ex_assign rfl) ?_
                                  refine JL_nil ?_
                                  refine N_then ?_
                                  refine J_seq ?_
                                  refine J_loop' (S := Int × (List (List Int))) (G := Value × List Nat) (F_spec_DerivationOf_L5 z135 s138) (fun s169 g170 => [(10, .pointer (some ⟨b22, 0, none⟩)), (11, .int .i64 s169.1), (12, g170.1)]) (fun s169 g170 => [.ow 23 g114 s113, .ow 2 v137 z135, .ow 23 g139 s138, .bx b22 52 [g114, v137, g139, .bool false], .od 23 g170.1 s169.2 g170.2]) (r162, ([] : List (List Int))) ((.slice (some ⟨b168, 0, none⟩) 0 0), ([] : List Nat)) ⟨rfl, rfl, rfl, trivial⟩ [1, 2, 3, 4, 0] rfl rfl (fun s169 g170 => ?_) (fun s169 g170 => ?_)
                                  · obtain ⟨g170_0, g170_1⟩ := g170
                                    unfold F_spec_DerivationOf_L5
                                    refine J_seq ?_
                                    refine J_seq ?_
                                    refine J_region ?_
                                    refine JL_q (wants_none rfl) rfl (ex_move rfl) ?_
                                    refine JL_q (wants_none rfl) rfl (ex_gtr rfl rfl) ?_
                                    refine JL_nil ?_
                                    refine N_then ?_
                                    refine J_if rfl (fun h171 => ?_) (fun h171 => ?_)
                                    · refine J_skip ?_
                                      refine N_then ?_
                                      refine J_seq ?_
                                      refine J_block ?_
                                      refine J_region ?_
                                      refine JL_q (wants_none rfl) rfl (ex_move rfl) ?_
                                      refine JL_q (wants_none rfl) rfl (ex_nilCheck rfl) ?_
                                      refine JL_q (wants_none rfl) rfl (ex_fieldAddr fi_52_2 rfl rfl) ?_
                                      refine JL_q (wants_none rfl) rfl (ex_load_bx 3 ti_33 rfl rfl rfl) ?_
                                      refine JL_q (wants_none rfl) rfl (ex_move rfl) ?_
                                      refine JL_bnd fun y172 hy173 => ?_
                                      refine JL_ow_open (v := g139) 2 rfl hy173 ?_; rintro b174 cap175 rfl
                                      refine JL_q (wants_none rfl) rfl (ex_index_ow 2 Try.underlying33 ti_23 rfl rfl rfl hy173) ?_
                                      refine JL_st (wants_none rfl) rfl (st_load_ow_o 2 (opens_sl _) ti_23 rfl rfl hy173) (fun v176 => ?_)
                                      refine JL_bnd fun r177 hr178 => ?_
                                      refine JL_call (wants_none rfl) rfl Try.call36 rfl (Ca_self (fun _ => rfl) fun w hh => c_spec_l00Own _ w (fun _ hk => hk.elim) _ _ (hh.rd0 0 rfl) _ hr178) (fun x179 => ?_)
                                      refine JL_ctx (fun w hh => hh.tokf 0 rfl rfl) ?_
                                      refine JL_st (wants_none rfl) rfl (st_buildSlice_od (vs := [x179]) (B := (((x179 : Value).ownBlock.toList ++ []) ++ [])) ([r177] : List (List Int)) [0] Try.underlying33 ti_23 zi_23 rfl rfl rfl rfl rfl (fun w hh => (dwv_cons (hh.dw 0 rfl) dwv_nil))) (fun b180 => ?_)
                                      refine JL_q (wants_none rfl) rfl (ex_move rfl) ?_
                                      refine JL_bnd fun z181 hz182 => ?_
                                      refine JL_st (wants_none rfl) rfl (st_append_od 0 8 Try.underlying33 ti_23 zi_23 rfl bi_23 rfl rfl rfl rfl rfl rfl hz182) (fun v183 => ?_)
                                      refine JL_q (wants_none rfl) rfl (ex_assign rfl) ?_
                                      refine JL_nil ?_
                                      refine N_block ?_
                                      refine N_then ?_
                                      refine J_region ?_
                                      refine JL_q (wants_none rfl) rfl (ex_move rfl) ?_
                                      refine JL_q (wants_none rfl) rfl (ex_nilCheck rfl) ?_
                                      refine JL_q (wants_none rfl) rfl (ex_fieldAddr fi_52_1 rfl rfl) ?_
                                      refine JL_q (wants_none rfl) rfl (ex_load_bx 7 ti_23 rfl rfl rfl) ?_
                                      refine JL_q (wants_none rfl) rfl (ex_move rfl) ?_
                                      refine JL_bnd fun y184 hy185 => ?_
                                      refine JL_ow_open (v := v137) 5 rfl hy185 ?_; rintro b186 cap187 rfl
                                      refine JL_q (wants_none rfl) rfl (ex_index_ow 5 Try.underlying23 ti_2 rfl rfl rfl hy185) ?_
                                      refine JL_q (wants_none rfl) rfl (ex_load_ow_int 5 ti_2 rfl rfl hy185) ?_
                                      refine JL_q (wants_none rfl) rfl (ex_assign rfl) ?_
                                      refine JL_nil ?_
                                      exact N_next' (v183, ((((x179 : Value).ownBlock.toList ++ []) ++ []) ++ g170_1)) ⟨rfl, rfl, rfl, trivial⟩ [4, 5, 6, 7, 0] rfl rfl
                                    · refine J_exit ?_
                                      refine N_then_exit ?_
                                      exact N_break' (g170_0, g170_1) ⟨rfl, rfl, rfl, trivial⟩ [0, 1, 2, 3, 4] rfl rfl
                                  · obtain ⟨g170_0, g170_1⟩ := g170
                                    refine N_then ?_
                                    refine J_seq ?_
                                    refine J_seq ?_
                                    refine J_region ?_
                                    refine JL_q (wants_none rfl) rfl (ex_move rfl) ?_
                                    refine JL_q (wants_none rfl) rfl (ex_od 4 rfl (ex_len_ow 4 Try.underlying33 rfl rfl)) ?_
                                    refine JL_q (wants_none rfl) rfl (ex_gtr rfl rfl) ?_
                                    refine JL_nil ?_
                                    refine N_then ?_
                                    refine J_if rfl (fun h189 => ?_) (fun h189 => ?_)
                                    · refine J_seq ?_
                                      refine J_region ?_
                                      refine JL_q (wants_none rfl) rfl (ex_assign rfl) ?_
                                      refine JL_q (wants_none rfl) rfl (ex_assign rfl) ?_
                                      refine JL_nil ?_
                                      refine N_then ?_
                                      refine J_ret ?_
                                      refine N_then_ret ?_
                                      refine N_ctx (fun w hh => SH.od_nil (α := (List Int)) 23 hh) ?_
                                      exact N_ret2 rfl (rv_tmp rfl) (rv_tmp rfl) (fun w hh => ⟨((.slice none 0 0 : Value), ([] : List Nat)), rfl, hh.sel [0] rfl⟩)
                                    · refine J_skip ?_
                                      refine N_then ?_
                                      refine J_seq ?_
                                      refine J_region ?_
                                      refine JL_q (wants_none rfl) rfl (ex_move rfl) ?_
                                      refine JL_q (wants_none rfl) rfl (ex_assign rfl) ?_
                                      refine JL_q (wants_none rfl) rfl (ex_assign rfl) ?_
                                      refine JL_nil ?_
                                      refine N_then ?_
                                      refine J_ret ?_
                                      exact N_ret2 rfl (rv_tmp rfl) (rv_tmp rfl) (fun w hh => ⟨(g170_0, g170_1), rfl, hh.sel [4] rfl⟩)
                            · refine J_skip ?_
                              refine N_block ?_
                              refine N_then ?_
                              refine J_region ?_
                              refine JL_q (wants_none rfl) rfl (ex_move rfl) ?_
                              refine JL_q (wants_none rfl) rfl (ex_add rfl rfl) ?_
                              refine JL_q (wants_none rfl) rfl (ex_assign rfl) ?_
                              refine JL_nil ?_
                              exact N_next' (g114, v137, g139, (.slice (some ⟨b111, 0, none⟩) (cpyAt z99 (w64 (s80.1 + 1)) (z99.length : Int) z107).length cap112)) ⟨rfl, rfl, rfl, rfl, rfl, rfl, rfl, rfl, trivial⟩ [0, 1, 2, 3, 4, 5, 6, 7, 8] rfl rfl
                      · refine JO_q rfl (wants_none rfl) rfl (ex_slice_ow 1 Try.underlying74 ti_9 rfl rfl rfl rfl hz108) ?_
                        refine JD_one (i := 3) (by kernel_rfl) ?_
                        refine JO_q rfl (wants_none rfl) rfl (ex_slice_ow 1 Try.underlying74 ti_9 rfl rfl rfl rfl hz106) ?_
                        refine JD_one (i := 7) (by kernel_rfl) ?_
                        refine JO_st rfl (wants_none rfl) rfl (st_copy_at 1 rfl Try.underlying74 ti_9 rfl rfl rfl hz106 (fun w hh => hh.src_own 1 rfl hz108)) (sub_ow 0 rfl) (fun _ => ?_)
                        refine JD_done (by kernel_rfl) ?_
                        refine N_then ?_
                        refine J_seq ?_
                        refine J_region ?_
                        refine JL_q (wants_none rfl) rfl (ex_move rfl) ?_
                        refine JL_q (wants_none rfl) rfl (ex_move rfl) ?_
                        refine JL_q (wants_none rfl) rfl (ex_move rfl) ?_
                        refine JL_bnd fun y190 hy191 => ?_
                        refine JL_ow_open (v := v101) 1 rfl hy191 ?_; rintro b192 cap193 rfl
                        refine JL_q (wants_none rfl) rfl (ex_index_ow 1 Try.underlying74 ti_9 rfl rfl rfl hy191) ?_
                        refine JL_sk (wants_none rfl) (sk_store_ow 1 ti_9 rfl rfl rfl hy191 (fun w hh => (Rd.mk_str _ _ _))) ?_
                        refine JL_nil ?_
                        refine N_then ?_
                        refine J_seq ?_
                        refine J_region ?_
                        refine JL_q (wants_none rfl) rfl (ex_move rfl) ?_
                        refine JL_q (wants_none rfl) rfl (ex_assign rfl) ?_
                        refine JL_q (wants_none rfl) rfl (ex_assign rfl) ?_
                        refine JL_nil ?_
                        refine N_then ?_
                        refine J_ret ?_
                        refine N_inl2 hK79 rfl (rv_tmp rfl) (rv_tmp rfl) ?_
                        refine JL_q (wants_none rfl) rfl (ex_move rfl) ?_
                        refine JL_q (wants_none rfl) rfl (ex_extract rfl rfl) ?_
                        refine JL_q (wants_none rfl) rfl (ex_extract rfl rfl) ?_
                        refine JL_q (wants_none rfl) rfl (ex_assign rfl) ?_
                        refine JL_q (wants_none rfl) rfl (ex_assign rfl) ?_
                        refine JL_nil ?_
                        refine N_then ?_
                        refine J_seq ?_
                        refine J_region ?_
                        refine JL_q (wants_none rfl) rfl (ex_move rfl) ?_
                        refine JL_q (wants_none rfl) rfl (ex_assign rfl) ?_
                        refine JL_nil ?_
                        refine N_then ?_
                        refine J_seq ?_
                        refine J_seq ?_
                        refine J_region ?_
                        refine JL_q (wants_none rfl) rfl (ex_move rfl) ?_
                        refine JL_q (wants_none rfl) rfl (ex_not rfl) ?_
                        refine JL_nil ?_
                        refine N_then ?_
                        refine J_if_false rfl (by rw [show (true) = true from rfl]; rfl) ?_
                        refine J_skip ?_
                        refine N_then ?_
                        refine J_seq ?_
                        refine J_cut' (S' := (List (List Int))) (G' := Value) (fun s194 g195 => [(0, v0_), (2, .int .i64 p3), (7, .pointer (some ⟨b22, 0, none⟩)), (8, (.slice (some ⟨b192, 0, none⟩) (cpyAt z99 (w64 (s80.1 + 1)) (z99.length : Int) z107).length cap193)), (9, .int .i64 s26.2.2.2.2.2), (10, (.slice (some ⟨b74, 0, none⟩) r63.1.length cap75)), (11, x65_2), (13, .int .i64 s69.2.2.2.2)]) (fun s194 g195 => [.rd v0_ p0, .ow 23 g195 s194, .ow 2 g70_1 s69.2.1, .ow 23 g70_2 s69.2.2.1, .bx b22 52 [g195, g70_1, g70_2, .bool s66], .ow 9 (.slice (some ⟨b192, 0, none⟩) (cpyAt z99 (w64 (s80.1 + 1)) (z99.length : Int) z107).length cap193) ((cpyAt z99 (w64 (s80.1 + 1)) (z99.length : Int) z107).set s80.1.toNat r77), .od 23 (.slice (some ⟨b74, 0, none⟩) r63.1.length cap75) r63.1 x65_1, .od 23 x65_2 r63.2.1 x65_3, .rd v2_ p2]) ?_ (fun s194 g195 => ?_)
                        · refine J_draw [4, 7] (by kernel_rfl) ?_
                          refine JP_take (i := 0) [0, 1, 2, 3, 5, 6, 8, 9] [4, 7] rfl (by kernel_rfl) (by kernel_rfl) (by kernel_rfl) rfl rfl (wants_none rfl) rfl (ex_move rfl) ?_
                          refine JP_take (i := 1) [0, 1, 2, 3, 5, 6, 8, 9] [4, 7] rfl (by kernel_rfl) (by kernel_rfl) (by kernel_rfl) rfl rfl (wants_none rfl) rfl (ex_move rfl) ?_
                          refine JP_take (i := 2) [0, 1, 2, 3, 5, 6, 8, 9] [4, 7] rfl (by kernel_rfl) (by kernel_rfl) (by kernel_rfl) rfl rfl (wants_none rfl) rfl (ex_nilCheck rfl) ?_
                          refine JP_take (i := 3) [0, 1, 2, 3, 5, 6, 8, 9] [4, 7] rfl (by kernel_rfl) (by kernel_rfl) (by kernel_rfl) rfl rfl (wants_none rfl) rfl (ex_fieldAddr fi_52_0 rfl rfl) ?_
                          refine JP_take (i := 5) [0, 1, 2, 3, 5, 6, 8, 9] [4, 7] rfl (by kernel_rfl) (by kernel_rfl) (by kernel_rfl) rfl rfl (wants_none rfl) rfl (ex_move rfl) ?_
                          refine JP_take (i := 6) [0, 1, 2, 3, 5, 6, 8, 9] [4, 7] rfl (by kernel_rfl) (by kernel_rfl) (by kernel_rfl) rfl rfl (wants_none rfl) rfl (ex_move rfl) ?_
                          refine JP_bnd fun y196 hy197 => ?_
                          refine JP_take (i := 7) [0, 1, 2, 3, 5, 6, 8, 9] [4, 7] rfl (by kernel_rfl) (by kernel_rfl) (by kernel_rfl) rfl rfl (wants_none rfl) rfl (ex_od 6 rfl (ex_index_ow 6 Try.underlying33 ti_23 rfl rfl rfl hy197)) ?_
                          refine JP_go [0, 1, 2, 3, 5, 6, 8, 9] [4, 7] rfl rfl rfl (fun w199 h1_200 hp198 => ?_)
                          refine JD_two (i := 4) (j := 8) (by kernel_rfl) ?_ ?_
                          · refine JO_q rfl (wants_none rfl) rfl (ex_load_bx 7 ti_33 rfl rfl rfl) ?_
                            refine JD_one (i := 8) (by kernel_rfl) ?_
                            refine JO_st rfl (wants_none rfl) rfl (st_od 8 rfl (st_load_ow_o 8 (opens_sl _) ti_23 rfl rfl hy197) (fun _ => rfl)) (fun _ hk => nomatch hk) (fun v201 => ?_)
                            refine JD_one (i := 9) (by kernel_rfl) ?_
                            refine JO_st rfl (wants_none rfl) rfl (st_buildSlice (vs := [v201]) ([y196] : List (List Int)) Try.underlying33 ti_23 zi_23 rfl rfl rfl (fun w hh => ⟨(hh.rd 0 rfl), trivial⟩)) (fun _ hk => nomatch hk) (fun b202 => ?_)
                            refine JD_bnd fun z203 hz204 => ?_
                            refine JD_one (i := 10) (by kernel_rfl) ?_
                            refine JO_st rfl (wants_none rfl) rfl (st_append 6 Try.underlying33 ti_23 zi_23 rfl bi_23 rfl rfl rfl rfl (fun w hh => hh.src_ow 0 rfl) hz204) (sub_ow 0 rfl) (fun v205 => ?_)
                            refine JD_take (i := 11) hp198 rfl (by kernel_rfl) (by kernel_rfl) (by kernel_rfl) (wants_none rfl) rfl (ex_nilCheck rfl) ?_
                            refine JD_take (i := 12) hp198 rfl (by kernel_rfl) (by kernel_rfl) (by kernel_rfl) (wants_none rfl) rfl (ex_fieldAddr fi_52_0 rfl rfl) ?_
                            refine JD_one (i := 13) (by kernel_rfl) ?_
                            refine JO_sk rfl (wants_none rfl) (sk_store_bx' 9 ti_33 rfl rfl (fun w hh => (hh.cv_ow 6 rfl)) rfl rfl rfl rfl) (sub_bx 1 rfl) ?_
                            refine JD_done (by kernel_rfl) ?_
                            exact N_meet' v205 ⟨rfl, rfl, rfl, rfl, rfl, rfl, rfl, rfl, trivial⟩ [5, 6, 7, 8, 9, 3, 10, 11, 4] rfl rfl
                          · refine JO_st rfl (wants_none rfl) rfl (st_od 8 rfl (st_load_ow_o 8 (opens_sl _) ti_23 rfl rfl hy197) (fun _ => rfl)) (fun _ hk => nomatch hk) (fun v206 => ?_)
                            refine JD_two (i := 4) (j := 9) (by kernel_rfl) ?_ ?_
                            · refine JO_q rfl (wants_none rfl) rfl (ex_load_bx 8 ti_33 rfl rfl rfl) ?_
                              refine JD_one (i := 9) (by kernel_rfl) ?_
                              refine JO_st rfl (wants_none rfl) rfl (st_buildSlice (vs := [v206]) ([y196] : List (List Int)) Try.underlying33 ti_23 zi_23 rfl rfl rfl (fun w hh => ⟨(hh.rd 0 rfl), trivial⟩)) (fun _ hk => nomatch hk) (fun b207 => ?_)
                              refine JD_bnd fun z208 hz209 => ?_
                              refine JD_one (i := 10) (by kernel_rfl) ?_
                              refine JO_st rfl (wants_none rfl) rfl (st_append 6 Try.underlying33 ti_23 zi_23 rfl bi_23 rfl rfl rfl rfl (fun w hh => hh.src_ow 0 rfl) hz209) (sub_ow 0 rfl) (fun v210 => ?_)
                              refine JD_take (i := 11) hp198 rfl (by kernel_rfl) (by kernel_rfl) (by kernel_rfl) (wants_none rfl) rfl (ex_nilCheck rfl) ?_
                              refine JD_take (i := 12) hp198 rfl (by kernel_rfl) (by kernel_rfl) (by kernel_rfl) (wants_none rfl) rfl (ex_fieldAddr fi_52_0 rfl rfl) ?_
                              refine JD_one (i := 13) (by kernel_rfl) ?_
                              refine JO_sk rfl (wants_none rfl) (sk_store_bx' 9 ti_33 rfl rfl (fun w hh => (hh.cv_ow 6 rfl)) rfl rfl rfl rfl) (sub_bx 1 rfl) ?_
                              refine JD_done (by kernel_rfl) ?_
                              exact N_meet' v210 ⟨rfl, rfl, rfl, rfl, rfl, rfl, rfl, rfl, trivial⟩ [5, 6, 7, 8, 9, 3, 10, 11, 4] rfl rfl
                            · refine JO_st rfl (wants_none rfl) rfl (st_buildSlice (vs := [v206]) ([y196] : List (List Int)) Try.underlying33 ti_23 zi_23 rfl rfl rfl (fun w hh => ⟨(hh.rd 0 rfl), trivial⟩)) (fun _ hk => nomatch hk) (fun b211 => ?_)
                              refine JD_one (i := 4) (by kernel_rfl) ?_
                              refine JO_q rfl (wants_none rfl) rfl (ex_load_bx 9 ti_33 rfl rfl rfl) ?_
                              refine JD_bnd fun z212 hz213 => ?_
                              refine JD_one (i := 10) (by kernel_rfl) ?_
                              refine JO_st rfl (wants_none rfl) rfl (st_append 6 Try.underlying33 ti_23 zi_23 rfl bi_23 rfl rfl rfl rfl (fun w hh => hh.src_ow 0 rfl) hz213) (sub_ow 0 rfl) (fun v214 => ?_)
                              refine JD_take (i := 11) hp198 rfl (by kernel_rfl) (by kernel_rfl) (by kernel_rfl) (wants_none rfl) rfl (ex_nilCheck rfl) ?_
                              refine JD_take (i := 12) hp198 rfl (by kernel_rfl) (by kernel_rfl) (by kernel_rfl) (wants_none rfl) rfl (ex_fieldAddr fi_52_0 rfl rfl) ?_
                              refine JD_one (i := 13) (by kernel_rfl) ?_
                              refine JO_sk rfl (wants_none rfl) (sk_store_bx' 9 ti_33 rfl rfl (fun w hh => (hh.cv_ow 6 rfl)) rfl rfl rfl rfl) (sub_bx 1 rfl) ?_
                              refine JD_done (by kernel_rfl) ?_
                              exact N_meet' v214 ⟨rfl, rfl, rfl, rfl, rfl, rfl, rfl, rfl, trivial⟩ [5, 6, 7, 8, 9, 3, 10, 11, 4] rfl rfl
                        · refine N_then ?_
                          refine J_seq ?_
                          refine J_region ?_
                          refine JL_q (wants_none rfl) rfl (ex_move rfl) ?_
                          refine JL_q (wants_none rfl) rfl (ex_move rfl) ?_
                          refine JL_q (wants_none rfl) rfl (ex_nilCheck rfl) ?_
                          refine JL_q (wants_none rfl) rfl (ex_fieldAddr fi_52_1 rfl rfl) ?_
                          refine JL_q (wants_none rfl) rfl (ex_load_bx 4 ti_23 rfl rfl rfl) ?_
                          refine JL_q (wants_none rfl) rfl (ex_move rfl) ?_
                          refine JL_st (wants_none rfl) rfl (st_buildSlice (vs := [.int .i64 s26.2.2.2.2.2]) ([s26.2.2.2.2.2] : List Int) Try.underlying23 ti_2 zi_2 rfl rfl rfl (fun w hh => ⟨(Rd.mk_int _ _ _), trivial⟩)) (fun b215 => ?_)
                          refine JL_bnd fun z216 hz217 => ?_
                          refine JL_st (wants_none rfl) rfl (st_append 3 Try.underlying23 ti_2 zi_2 rfl bi_2 rfl rfl rfl rfl (fun w hh => hh.src_ow 0 rfl) hz217) (fun v218 => ?_)
                          refine JL_q (wants_none rfl) rfl (ex_nilCheck rfl) ?_
                          refine JL_q (wants_none rfl) rfl (ex_fieldAddr fi_52_1 rfl rfl) ?_
                          refine JL_sk (wants_none rfl) (sk_store_bx' 5 ti_23 rfl rfl (fun w hh => (hh.cv_ow 3 rfl)) rfl rfl rfl rfl) ?_
                          refine JL_nil ?_
                          refine N_then ?_
                          refine J_seq ?_
                          refine J_cut' (S' := (List (List Int))) (G' := Value) (fun s219 g220 => [(0, v0_), (2, .int .i64 p3), (7, .pointer (some ⟨b22, 0, none⟩)), (8, (.slice (some ⟨b192, 0, none⟩) (cpyAt z99 (w64 (s80.1 + 1)) (z99.length : Int) z107).length cap193)), (9, .int .i64 s26.2.2.2.2.2), (10, (.slice (some ⟨b74, 0, none⟩) r63.1.length cap75)), (11, x65_2), (13, .int .i64 s69.2.2.2.2)]) (fun s219 g220 => [.rd v0_ p0, .ow 23 g195 s194, .ow 2 v218 z216, .ow 23 g220 s219, .bx b22 52 [g195, v218, g220, .bool s66], .ow 9 (.slice (some ⟨b192, 0, none⟩) (cpyAt z99 (w64 (s80.1 + 1)) (z99.length : Int) z107).length cap193) ((cpyAt z99 (w64 (s80.1 + 1)) (z99.length : Int) z107).set s80.1.toNat r77), .od 23 (.slice (some ⟨b74, 0, none⟩) r63.1.length cap75) r63.1 x65_1, .od 23 x65_2 r63.2.1 x65_3, .rd v2_ p2]) ?_ (fun s219 g220 => ?_)
                          · refine J_draw [4, 5, 8] (by kernel_rfl) ?_
                            refine JP_take (i := 0) [0, 1, 2, 3, 6, 7, 9] [4, 5, 8] rfl (by kernel_rfl) (by kernel_rfl) (by kernel_rfl) rfl rfl (wants_none rfl) rfl (ex_move rfl) ?_
                            refine JP_take (i := 1) [0, 1, 2, 3, 6, 7, 9] [4, 5, 8] rfl (by kernel_rfl) (by kernel_rfl) (by kernel_rfl) rfl rfl (wants_none rfl) rfl (ex_move rfl) ?_
                            refine JP_take (i := 2) [0, 1, 2, 3, 6, 7, 9] [4, 5, 8] rfl (by kernel_rfl) (by kernel_rfl) (by kernel_rfl) rfl rfl (wants_none rfl) rfl (ex_nilCheck rfl) ?_
                            refine JP_take (i := 3) [0, 1, 2, 3, 6, 7, 9] [4, 5, 8] rfl (by kernel_rfl) (by kernel_rfl) (by kernel_rfl) rfl rfl (wants_none rfl) rfl (ex_fieldAddr fi_52_2 rfl rfl) ?_
                            refine JP_take (i := 5) [0, 1, 2, 3, 6, 7, 9] [4, 5, 8] rfl (by kernel_rfl) (by kernel_rfl) (by kernel_rfl) rfl rfl (wants_none rfl) rfl (ex_move rfl) ?_
                            refine JP_take (i := 6) [0, 1, 2, 3, 6, 7, 9] [4, 5, 8] rfl (by kernel_rfl) (by kernel_rfl) (by kernel_rfl) rfl rfl (wants_none rfl) rfl (ex_move rfl) ?_
                            refine JP_bnd fun y221 hy222 => ?_
                            refine JP_od_open (v := x65_2) 8 rfl hy222 ?_; rintro b223 cap224 rfl
                            refine JP_take (i := 7) [0, 1, 2, 3, 6, 7, 9] [4, 5, 8] rfl (by kernel_rfl) (by kernel_rfl) (by kernel_rfl) rfl rfl (wants_none rfl) rfl (ex_index_own Try.underlying33 ti_23 rfl rfl hy222 (by first | rfl | simp)) ?_
                            refine JP_go [0, 1, 2, 3, 6, 7, 9] [4, 5, 8] rfl rfl rfl (fun w226 h1_227 hp225 => ?_)
                            refine JD_two (i := 4) (j := 8) (by kernel_rfl) ?_ ?_
                            · refine JO_q rfl (wants_none rfl) rfl (ex_load_bx 5 ti_33 rfl rfl rfl) ?_
                              refine JD_one (i := 8) (by kernel_rfl) ?_
                              refine JO_st rfl (wants_none rfl) rfl (st_od 8 rfl (st_load_ow_o 8 (opens_sl _) ti_23 rfl rfl hy222) (fun _ => rfl)) (fun _ hk => nomatch hk) (fun v228 => ?_)
                              refine JD_one (i := 9) (by kernel_rfl) ?_
                              refine JO_st rfl (wants_none rfl) rfl (st_buildSlice (vs := [v228]) ([y221] : List (List Int)) Try.underlying33 ti_23 zi_23 rfl rfl rfl (fun w hh => ⟨(hh.rd 0 rfl), trivial⟩)) (fun _ hk => nomatch hk) (fun b229 => ?_)
                              refine JD_bnd fun z230 hz231 => ?_
                              refine JD_one (i := 10) (by kernel_rfl) ?_
                              refine JO_st rfl (wants_none rfl) rfl (st_append 6 Try.underlying33 ti_23 zi_23 rfl bi_23 rfl rfl rfl rfl (fun w hh => hh.src_ow 0 rfl) hz231) (sub_ow 0 rfl) (fun v232 => ?_)
                              refine JD_take (i := 11) hp225 rfl (by kernel_rfl) (by kernel_rfl) (by kernel_rfl) (wants_none rfl) rfl (ex_nilCheck rfl) ?_
                              refine JD_take (i := 12) hp225 rfl (by kernel_rfl) (by kernel_rfl) (by kernel_rfl) (wants_none rfl) rfl (ex_fieldAddr fi_52_2 rfl rfl) ?_
                              refine JD_one (i := 13) (by kernel_rfl) ?_
                              refine JO_sk rfl (wants_none rfl) (sk_store_bx' 7 ti_33 rfl rfl (fun w hh => (hh.cv_ow 6 rfl)) rfl rfl rfl rfl) (sub_bx 1 rfl) ?_
                              refine JD_done (by kernel_rfl) ?_
                              exact N_meet' v232 ⟨rfl, rfl, rfl, rfl, rfl, rfl, rfl, rfl, trivial⟩ [3, 4, 5, 6, 7, 8, 9, 10, 11] rfl rfl
                            · refine JO_st rfl (wants_none rfl) rfl (st_od 8 rfl (st_load_ow_o 8 (opens_sl _) ti_23 rfl rfl hy222) (fun _ => rfl)) (fun _ hk => nomatch hk) (fun v233 => ?_)
                              refine JD_two (i := 4) (j := 9) (by kernel_rfl) ?_ ?_
                              · refine JO_q rfl (wants_none rfl) rfl (ex_load_bx 6 ti_33 rfl rfl rfl) ?_
                                refine JD_one (i := 9) (by kernel_rfl) ?_
                                refine JO_st rfl (wants_none rfl) rfl (st_buildSlice (vs := [v233]) ([y221] : List (List Int)) Try.underlying33 ti_23 zi_23 rfl rfl rfl (fun w hh => ⟨(hh.rd 0 rfl), trivial⟩)) (fun _ hk => nomatch hk) (fun b234 => ?_)
                                refine JD_bnd fun z235 hz236 => ?_
                                refine JD_one (i := 10) (by kernel_rfl) ?_
                                refine JO_st rfl (wants_none rfl) rfl (st_append 6 Try.underlying33 ti_23 zi_23 rfl bi_23 rfl rfl rfl rfl (fun w hh => hh.src_ow 0 rfl) hz236) (sub_ow 0 rfl) (fun v237 => ?_)
                                refine JD_take (i := 11) hp225 rfl (by kernel_rfl) (by kernel_rfl) (by kernel_rfl) (wants_none rfl) rfl (ex_nilCheck rfl) ?_
                                refine JD_take (i := 12) hp225 rfl (by kernel_rfl) (by kernel_rfl) (by kernel_rfl) (wants_none rfl) rfl (ex_fieldAddr fi_52_2 rfl rfl) ?_
                                refine JD_one (i := 13) (by kernel_rfl) ?_
                                refine JO_sk rfl (wants_none rfl) (sk_store_bx' 7 ti_33 rfl rfl (fun w hh => (hh.cv_ow 6 rfl)) rfl rfl rfl rfl) (sub_bx 1 rfl) ?_
                                refine JD_done (by kernel_rfl) ?_
                                exact N_meet' v237 ⟨rfl, rfl, rfl, rfl, rfl, rfl, rfl, rfl, trivial⟩ [3, 4, 5, 6, 7, 8, 9, 10, 11] rfl rfl
                              · refine JO_st rfl (wants_none rfl) rfl (st_buildSlice (vs := [v233]) ([y221] : List (List Int)) Try.underlying33 ti_23 zi_23 rfl rfl rfl (fun w hh => ⟨(hh.rd 0 rfl), trivial⟩)) (fun _ hk => nomatch hk) (fun b238 => ?_)
                                refine JD_one (i := 4) (by kernel_rfl) ?_
                                refine JO_q rfl (wants_none rfl) rfl (ex_load_bx 7 ti_33 rfl rfl rfl) ?_
                                refine JD_bnd fun z239 hz240 => ?_
                                refine JD_one (i := 10) (by kernel_rfl) ?_
                                refine JO_st rfl (wants_none rfl) rfl (st_append 6 Try.underlying33 ti_23 zi_23 rfl bi_23 rfl rfl rfl rfl (fun w hh => hh.src_ow 0 rfl) hz240) (sub_ow 0 rfl) (fun v241 => ?_)
                                refine JD_take (i := 11) hp225 rfl (by kernel_rfl) (by kernel_rfl) (by kernel_rfl) (wants_none rfl) rfl (ex_nilCheck rfl) ?_
                                refine JD_take (i := 12) hp225 rfl (by kernel_rfl) (by kernel_rfl) (by kernel_rfl) (wants_none rfl) rfl (ex_fieldAddr fi_52_2 rfl rfl) ?_
                                refine JD_one (i := 13) (by kernel_rfl) ?_
                                refine JO_sk rfl (wants_none rfl) (sk_store_bx' 7 ti_33 rfl rfl (fun w hh => (hh.cv_ow 6 rfl)) rfl rfl rfl rfl) (sub_bx 1 rfl) ?_
                                refine JD_done (by kernel_rfl) ?_
                                exact N_meet' v241 ⟨rfl, rfl, rfl, rfl, rfl, rfl, rfl, rfl, trivial⟩ [3, 4, 5, 6, 7, 8, 9, 10, 11] rfl rfl
                          · refine N_then ?_
                            refine J_seq ?_
                            refine J_region ?_
                            refine JL_q (wants_none rfl) rfl (ex_move rfl) ?_
                            refine JL_q (wants_none rfl) rfl (ex_nilCheck rfl) ?_
                            refine JL_q (wants_none rfl) rfl (ex_fieldAddr fi_52_0 rfl rfl) ?_
                            refine JL_q (wants_none rfl) rfl (ex_load_bx 4 ti_33 rfl rfl rfl) ?_
                            refine JL_q (wants_none rfl) rfl (ex_len_ow 1 Try.underlying33 rfl rfl) ?_
                            refine JL_q (wants_none rfl) rfl (ex_eql rfl rfl) ?_
                            refine JL_nil ?_
                            refine N_then ?_
                            refine J_if rfl (fun h242 => ?_) (fun h242 => ?_)
                            · refine J_seq ?_
                              refine J_region ?_
                              refine JL_q (wants_none rfl) rfl (ex_move rfl) ?_
                              refine JL_q (wants_none rfl) rfl (ex_nilCheck rfl) ?_
                              refine JL_q (wants_none rfl) rfl (ex_fieldAddr fi_52_3 rfl rfl) ?_
                              refine JL_sk (wants_none rfl) (sk_store_bx' 4 ti_4 rfl rfl (fun w hh => cv_bool) rfl rfl rfl rfl) ?_
                              refine JL_nil ?_
                              refine N_then ?_
                              refine J_seq ?_
                              refine J_region ?_
                              refine JL_q (wants_none rfl) rfl (ex_move rfl) ?_
                              refine JL_q (wants_none rfl) rfl (ex_assign rfl) ?_
                              refine JL_nil ?_
                              refine N_then ?_
                              refine J_ret ?_
                              refine N_block_ret ?_
                              refine N_then_ret ?_
                              refine N_round_ret ?_
                              refine N_block_ret ?_
                              refine N_then_ret ?_
                              refine N_round_reti ?_
                              refine N_then_ret ?_
                              refine N_inl1 hK15 rfl (rv_tmp rfl) ?_
                              refine JL_q (wants_none rfl) rfl (ex_assign rfl) ?_
                              refine JL_nil ?_
                              refine N_then ?_
                              refine J_seq ?_
                              refine J_region ?_
                              refine JL_q (wants_none rfl) rfl (ex_move rfl) ?_
                              refine JL_q (wants_none rfl) rfl (ex_nilCheck rfl) ?_
                              refine JL_q (wants_none rfl) rfl (ex_fieldAddr fi_52_0 rfl rfl) ?_
                              refine JL_q (wants_none rfl) rfl (ex_load_bx 4 ti_33 rfl rfl rfl) ?_
                              refine JL_q (wants_none rfl) rfl (ex_move rfl) ?_
                              refine JL_bnd fun r243 hr244 => ?_
                              refine JL_call (wants_none rfl) rfl Try.call30 rfl (Ca_of0 fun w hh => c_spec_l10Row _ w (fun _ hk => hk.elim) _ _ (hh.ow0 1 rfl) _ _ (hh.rd0 8 rfl) _ hr244) (fun _ => ?_)
                              refine JL_q (wants_none rfl) rfl (ex_assign rfl) ?_
                              refine JL_nil ?_
                              refine N_then ?_
                              refine J_seq ?_
                              refine J_cut' (S' := Unit) (G' := Unit) (fun _ _ => [(10, .pointer (some ⟨b22, 0, none⟩)), (11, .int .i64 r243)]) (fun _ _ => [.ow 23 g195 s194, .ow 2 v218 z216, .ow 23 g220 s219, .bx b22 52 [g195, v218, g220, .bool false]]) ?_ (fun s245 g246 => ?_)
                              · refine J_seq ?_
                                refine J_region ?_
                                refine JL_q (wants_none rfl) rfl (ex_move rfl) ?_
                                refine JL_q (wants_none rfl) rfl (ex_lss rfl rfl) ?_
                                refine JL_q (wants_none rfl) rfl (ex_move rfl) ?_
                                refine JL_cond (fun h247 => ?_) (fun h247 => ?_)
                                · refine JL_q (wants_some rfl rfl rfl h247) rfl (ex_move rfl) ?_
                                  refine JL_q (wants_some rfl rfl rfl h247) rfl (ex_nilCheck rfl) ?_
                                  refine JL_q (wants_some rfl rfl rfl h247) rfl (ex_fieldAddr fi_52_3 rfl rfl) ?_
                                  refine JL_q (wants_some rfl rfl rfl h247) rfl (ex_load_bx 4 ti_4 rfl rfl rfl) ?_
                                  refine JL_q (wants_none rfl) rfl (ex_pick_true rfl h247 rfl) ?_
                                  refine JL_nil ?_
                                  refine N_then ?_
                                  refine J_if_false rfl rfl ?_
                                  refine J_skip ?_
                                  exact N_meet' () ⟨rfl, rfl, trivial⟩ [1, 2, 3, 4] rfl rfl
                                · refine JL_passed rfl rfl rfl h247 ?_
                                  refine JL_passed rfl rfl rfl h247 ?_
                                  refine JL_passed rfl rfl rfl h247 ?_
                                  refine JL_passed rfl rfl rfl h247 ?_
                                  refine JL_q (wants_none rfl) rfl (ex_pick_false rfl h247 rfl) ?_
                                  refine JL_nil ?_
                                  refine N_then ?_
                                  refine J_if_false rfl rfl ?_
                                  refine J_skip ?_
                                  exact N_meet' () ⟨rfl, rfl, trivial⟩ [1, 2, 3, 4] rfl rfl
                              · refine N_then ?_
                                refine J_seq ?_
                                refine J_seq ?_
                                refine J_region ?_
                                refine JL_q (wants_none rfl) rfl (ex_move rfl) ?_
                                refine JL_q (wants_none rfl) rfl (ex_lss rfl rfl) ?_
                                refine JL_nil ?_
                                refine N_then ?_
                                refine J_if rfl (fun h248 => ?_) (fun h248 => ?_)
                                · refine J_seq ?_
                                  refine J_region ?_
                                  refine JL_q (wants_none rfl) rfl (ex_assign rfl) ?_
                                  refine JL_q (wants_none rfl) rfl (ex_assign rfl) ?_
                                  refine JL_nil ?_
                                  refine N_then ?_
                                  refine J_ret ?_
                                  refine N_then_ret ?_
                                  refine N_ctx (fun w hh => SH.od_nil (α := (List Int)) 23 hh) ?_
                                  exact N_ret2 rfl (rv_tmp rfl) (rv_tmp rfl) (fun w hh => ⟨((.slice none 0 0 : Value), ([] : List Nat)), rfl, hh.sel [0] rfl⟩)
                                · refine J_skip ?_
                                  refine N_then ?_
                                  refine J_seq ?_
                                  refine J_region ?_
                                  refine JL_st (wants_none rfl) rfl (st_buildSlice_od (vs := []) (B := ([] : List Nat)) ([] : List (List Int)) [] Try.underlying33 ti_23 zi_23 rfl rfl rfl rfl rfl (fun w hh => dwv_nil)) (fun b249 => ?_)
                                  refine JL_q (wants_none rfl) rfl (ex_assign rfl) ?_
                                  refine JL_nil ?_
                                  refine N_then ?_
                                  refine J_seq ?_
                                  refine J_loop' (S := Int × (List (List Int))) (G := Value × List Nat) (F_spec_DerivationOf_L5 z216 s219) (fun s250 g251 => [(10, .pointer (some ⟨b22, 0, none⟩)), (11, .int .i64 s250.1), (12, g251.1)]) (fun s250 g251 => [.ow 23 g195 s194, .ow 2 v218 z216, .ow 23 g220 s219, .bx b22 52 [g195, v218, g220, .bool false], .od 23 g251.1 s250.2 g251.2]) (r243, ([] : List (List Int))) ((.slice (some ⟨b249, 0, none⟩) 0 0), ([] : List Nat)) ⟨rfl, rfl, rfl, trivial⟩ [1, 2, 3, 4, 0] rfl rfl (fun s250 g251 => ?_) (fun s250 g251 => ?_)
                                  · obtain ⟨g251_0, g251_1⟩ := g251
                                    unfold F_spec_DerivationOf_L5
                                    refine J_seq ?_
                                    refine J_seq ?_
                                    refine J_region ?_
                                    refine JL_q (wants_none rfl) rfl (ex_move rfl) ?_
                                    refine JL_q (wants_none rfl) rfl (ex_gtr rfl rfl) ?_
                                    refine JL_nil ?_
                                    refine N_then ?_
                                    refine J_if rfl (fun h252 => ?_) (fun h252 => ?_)
                                    · refine J_skip ?_
                                      refine N_then ?_
                                      refine J_seq ?_
                                      refine J_block ?_
                                      refine J_region ?_
                                      refine JL_q (wants_none rfl) rfl (ex_move rfl) ?_
                                      refine JL_q (wants_none rfl) rfl (ex_nilCheck rfl) ?_
                                      refine JL_q (wants_none rfl) rfl (ex_fieldAddr fi_52_2 rfl rfl) ?_
                                      refine JL_q (wants_none rfl) rfl (ex_load_bx 3 ti_33 rfl rfl rfl) ?_
                                      refine JL_q (wants_none rfl) rfl (ex_move rfl) ?_
                                      refine JL_bnd fun y253 hy254 => ?_
                                      refine JL_ow_open (v := g220) 2 rfl hy254 ?_; rintro b255 cap256 rfl
                                      refine JL_q (wants_none rfl) rfl (ex_index_ow 2 Try.underlying33 ti_23 rfl rfl rfl hy254) ?_
                                      refine JL_st (wants_none rfl) rfl (st_load_ow_o 2 (opens_sl _) ti_23 rfl rfl hy254) (fun v257 => ?_)
                                      refine JL_bnd fun r258 hr259 => ?_
                                      refine JL_call (wants_none rfl) rfl Try.call36 rfl (Ca_self (fun _ => rfl) fun w hh => c_spec_l00Own _ w (fun _ hk => hk.elim) _ _ (hh.rd0 0 rfl) _ hr259) (fun x260 => ?_)
                                      refine JL_ctx (fun w hh => hh.tokf 0 rfl rfl) ?_
                                      refine JL_st (wants_none rfl) rfl (st_buildSlice_od (vs := [x260]) (B := (((x260 : Value).ownBlock.toList ++ []) ++ [])) ([r258] : List (List Int)) [0] Try.underlying33 ti_23 zi_23 rfl rfl rfl rfl rfl (fun w hh => (dwv_cons (hh.dw 0 rfl) dwv_nil))) (fun b261 => ?_)
                                      refine JL_q (wants_none rfl) rfl (ex_move rfl) ?_
                                      refine JL_bnd fun z262 hz263 => ?_
                                      refine JL_st (wants_none rfl) rfl (st_append_od 0 8 Try.underlying33 ti_23 zi_23 rfl bi_23 rfl rfl rfl rfl rfl rfl hz263) (fun v264 => ?_)
                                      refine JL_q (wants_none rfl) rfl (ex_assign rfl) ?_
                                      refine JL_nil ?_
                                      refine N_block ?_
                                      refine N_then ?_
                                      refine J_region ?_
                                      refine JL_q (wants_none rfl) rfl (ex_move rfl) ?_
                                      refine JL_q (wants_none rfl) rfl (ex_nilCheck rfl) ?_
                                      refine JL_q (wants_none rfl) rfl (ex_fieldAddr fi_52_1 rfl rfl) ?_
                                      refine JL_q (wants_none rfl) rfl (ex_load_bx 7 ti_23 rfl rfl rfl) ?_
                                      refine JL_q (wants_none rfl) rfl (ex_move rfl) ?_
                                      refine JL_bnd fun y265 hy266 => ?_
                                      refine JL_ow_open (v := v218) 5 rfl hy266 ?_; rintro b267 cap268 rfl
                                      refine JL_q (wants_none rfl) rfl (ex_index_ow 5 Try.underlying23 ti_2 rfl rfl rfl hy266) ?_
                                      refine JL_q (wants_none rfl) rfl (ex_load_ow_int 5 ti_2 rfl rfl hy266) ?_
                                      refine JL_q (wants_none rfl) rfl (ex_assign rfl) ?_
                                      refine JL_nil ?_
                                      exact N_next' (v264, ((((x260 : Value).ownBlock.toList ++ []) ++ []) ++ g251_1)) ⟨rfl, rfl, rfl, trivial⟩ [4, 5, 6, 7, 0] rfl rfl
                                    · refine J_exit ?_
                                      refine N_then_exit ?_
                                      exact N_break' (g251_0, g251_1) ⟨rfl, rfl, rfl, trivial⟩ [0, 1, 2, 3, 4] rfl rfl
                                  · obtain ⟨g251_0, g251_1⟩ := g251
                                    refine N_then ?_
                                    refine J_seq ?_
                                    refine J_seq ?_
                                    refine J_region ?_
                                    refine JL_q (wants_none rfl) rfl (ex_move rfl) ?_
                                    refine JL_q (wants_none rfl) rfl (ex_od 4 rfl (ex_len_ow 4 Try.underlying33 rfl rfl)) ?_
                                    refine JL_q (wants_none rfl) rfl (ex_gtr rfl rfl) ?_
                                    refine JL_nil ?_
                                    refine N_then ?_
                                    refine J_if rfl (fun h270 => ?_) (fun h270 => ?_)
                                    · refine J_seq ?_
                                      refine J_region ?_
                                      refine JL_q (wants_none rfl) rfl (ex_assign rfl) ?_
                                      refine JL_q (wants_none rfl) rfl (ex_assign rfl) ?_
                                      refine JL_nil ?_
                                      refine N_then ?_
                                      refine J_ret ?_
                                      refine N_then_ret ?_
                                      refine N_ctx (fun w hh => SH.od_nil (α := (List Int)) 23 hh) ?_
                                      exact N_ret2 rfl (rv_tmp rfl) (rv_tmp rfl) (fun w hh => ⟨((.slice none 0 0 : Value), ([] : List Nat)), rfl, hh.sel [0] rfl⟩)
                                    · refine J_skip ?_
                                      refine N_then ?_
                                      refine J_seq ?_
                                      refine J_region ?_
                                      refine JL_q (wants_none rfl) rfl (ex_move rfl) ?_
                                      refine JL_q (wants_none rfl) rfl (ex_assign rfl) ?_
                                      refine JL_q (wants_none rfl) rfl (ex_assign rfl) ?_
                                      refine JL_nil ?_
                                      refine N_then ?_
                                      refine J_ret ?_
                                      exact N_ret2 rfl (rv_tmp rfl) (rv_tmp rfl) (fun w hh => ⟨(g251_0, g251_1), rfl, hh.sel [4] rfl⟩)
                            · refine J_skip ?_
                              refine N_block ?_
                              refine N_then ?_
                              refine J_region ?_
                              refine JL_q (wants_none rfl) rfl (ex_move rfl) ?_
                              refine JL_q (wants_none rfl) rfl (ex_add rfl rfl) ?_
                              refine JL_q (wants_none rfl) rfl (ex_assign rfl) ?_
                              refine JL_nil ?_
                              exact N_next' (g195, v218, g220, (.slice (some ⟨b192, 0, none⟩) (cpyAt z99 (w64 (s80.1 + 1)) (z99.length : Int) z107).length cap193)) ⟨rfl, rfl, rfl, rfl, rfl, rfl, rfl, rfl, trivial⟩ [0, 1, 2, 3, 4, 5, 6, 7, 8] rfl rfl
                · refine J_exit ?_
                  refine N_then_exit ?_
                  exact N_break' (g70_0, g70_1, g70_2, g70_3) ⟨rfl, rfl, rfl, rfl, rfl, rfl, rfl, rfl, trivial⟩ [0, 1, 2, 3, 4, 5, 6, 7, 8] rfl rfl
              · obtain ⟨g70_0, g70_1, g70_2, g70_3⟩ := g70
                refine N_block ?_
                refine N_then ?_
                refine J_region ?_
                refine JL_q (wants_none rfl) rfl (ex_move rfl) ?_
                refine JL_q (wants_none rfl) rfl (ex_add rfl rfl) ?_
                refine JL_q (wants_none rfl) rfl (ex_assign rfl) ?_
                refine JL_nil ?_
                exact N_next' (g70_0, g70_1, g70_2, g70_3) ⟨rfl, rfl, rfl, rfl, rfl, trivial⟩ [0, 1, 2, 3, 4, 5, 8] rfl rfl
        · refine J_exit ?_
          refine N_then_exit ?_
          exact N_break' (g27_0, g27_1, g27_2, g27_3) ⟨rfl, rfl, rfl, rfl, rfl, trivial⟩ [0, 1, 2, 3, 4, 5, 6] rfl rfl
      · obtain ⟨g27_0, g27_1, g27_2, g27_3⟩ := g27
        refine N_then ?_
        refine J_seq ?_
        refine J_region ?_
        refine JL_q (wants_none rfl) rfl (ex_move rfl) ?_
        refine JL_q (wants_none rfl) rfl (ex_assign rfl) ?_
        refine JL_nil ?_
        refine N_then ?_
        refine J_ret ?_
        refine N_inl1 hK15 rfl (rv_tmp rfl) ?_
        refine JL_q (wants_none rfl) rfl (ex_assign rfl) ?_
        refine JL_nil ?_
        refine N_then ?_
        refine J_seq ?_
        refine J_region ?_
        refine JL_q (wants_none rfl) rfl (ex_move rfl) ?_
        refine JL_q (wants_none rfl) rfl (ex_nilCheck rfl) ?_
        refine JL_q (wants_none rfl) rfl (ex_fieldAddr fi_52_0 rfl rfl) ?_
        refine JL_q (wants_none rfl) rfl (ex_load_bx 4 ti_33 rfl rfl rfl) ?_
        refine JL_q (wants_none rfl) rfl (ex_move rfl) ?_
        refine JL_bnd fun r271 hr272 => ?_
        refine JL_call (wants_none rfl) rfl Try.call30 rfl (Ca_of0 fun w hh => c_spec_l10Row _ w (fun _ hk => hk.elim) _ _ (hh.ow0 1 rfl) _ _ (hh.rd0 6 rfl) _ hr272) (fun _ => ?_)
        refine JL_q (wants_none rfl) rfl (ex_assign rfl) ?_
        refine JL_nil ?_
        refine N_then ?_
        refine J_seq ?_
        refine J_cut' (S' := Unit) (G' := Unit) (fun _ _ => [(10, .pointer (some ⟨b22, 0, none⟩)), (11, .int .i64 r271)]) (fun _ _ => [.ow 23 g27_0 s26.1, .ow 2 g27_1 s26.2.1, .ow 23 g27_2 s26.2.2.1, .bx b22 52 [g27_0, g27_1, g27_2, .bool s26.2.2.2.1]]) ?_ (fun s273 g274 => ?_)
        · refine J_seq ?_
          refine J_region ?_
          refine JL_q (wants_none rfl) rfl (ex_move rfl) ?_
          refine JL_q (wants_none rfl) rfl (ex_lss rfl rfl) ?_
          refine JL_q (wants_none rfl) rfl (ex_move rfl) ?_
          refine JL_cond (fun h275 => ?_) (fun h275 => ?_)
          · refine JL_q (wants_some rfl rfl rfl h275) rfl (ex_move rfl) ?_
            refine JL_q (wants_some rfl rfl rfl h275) rfl (ex_nilCheck rfl) ?_
            refine JL_q (wants_some rfl rfl rfl h275) rfl (ex_fieldAddr fi_52_3 rfl rfl) ?_
            refine JL_q (wants_some rfl rfl rfl h275) rfl (ex_load_bx 4 ti_4 rfl rfl rfl) ?_
            refine JL_q (wants_none rfl) rfl (ex_pick_true rfl h275 rfl) ?_
            refine JL_nil ?_
            refine N_then ?_
            refine J_if rfl (fun h276 => ?_) (fun h276 => ?_)
            · refine J_seq ?_
              refine J_region ?_
              refine JL_q (wants_none rfl) rfl (ex_assign rfl) ?_
              refine JL_q (wants_none rfl) rfl (ex_assign rfl) ?_
              refine JL_nil ?_
              refine N_then ?_
              refine J_ret ?_
              refine N_mid_ret ?_
              refine N_then_ret ?_
              refine N_ctx (fun w hh => SH.od_nil (α := (List Int)) 23 hh) ?_
              exact N_ret2 rfl (rv_tmp rfl) (rv_tmp rfl) (fun w hh => ⟨((.slice none 0 0 : Value), ([] : List Nat)), rfl, hh.sel [0] rfl⟩)
            · refine J_skip ?_
              exact N_meet' () ⟨rfl, rfl, trivial⟩ [1, 2, 3, 4] rfl rfl
          · refine JL_passed rfl rfl rfl h275 ?_
            refine JL_passed rfl rfl rfl h275 ?_
            refine JL_passed rfl rfl rfl h275 ?_
            refine JL_passed rfl rfl rfl h275 ?_
            refine JL_q (wants_none rfl) rfl (ex_pick_false rfl h275 rfl) ?_
            refine JL_nil ?_
            refine N_then ?_
            refine J_if_false rfl rfl ?_
            refine J_skip ?_
            exact N_meet' () ⟨rfl, rfl, trivial⟩ [1, 2, 3, 4] rfl rfl
        · refine N_then ?_
          refine J_seq ?_
          refine J_seq ?_
          refine J_region ?_
          refine JL_q (wants_none rfl) rfl (ex_move rfl) ?_
          refine JL_q (wants_none rfl) rfl (ex_lss rfl rfl) ?_
          refine JL_nil ?_
          refine N_then ?_
          refine J_if rfl (fun h277 => ?_) (fun h277 => ?_)
          · refine J_seq ?_
            refine J_region ?_
            refine JL_q (wants_none rfl) rfl (ex_assign rfl) ?_
            refine JL_q (wants_none rfl) rfl (ex_assign rfl) ?_
            refine JL_nil ?_
            refine N_then ?_
            refine J_ret ?_
            refine N_then_ret ?_
            refine N_ctx (fun w hh => SH.od_nil (α := (List Int)) 23 hh) ?_
            exact N_ret2 rfl (rv_tmp rfl) (rv_tmp rfl) (fun w hh => ⟨((.slice none 0 0 : Value), ([] : List Nat)), rfl, hh.sel [0] rfl⟩)
          · refine J_skip ?_
            refine N_then ?_
            refine J_seq ?_
            refine J_region ?_
            refine JL_st (wants_none rfl) rfl (st_buildSlice_od (vs := []) (B := ([] : List Nat)) ([] : List (List Int)) [] Try.underlying33 ti_23 zi_23 rfl rfl rfl rfl rfl (fun w hh => dwv_nil)) (fun b278 => ?_)
            refine JL_q (wants_none rfl) rfl (ex_assign rfl) ?_
            refine JL_nil ?_
            refine N_then ?_
            refine J_seq ?_
            refine J_loop' (S := Int × (List (List Int))) (G := Value × List Nat) (F_spec_DerivationOf_L2 s26) (fun s279 g280 => [(10, .pointer (some ⟨b22, 0, none⟩)), (11, .int .i64 s279.1), (12, g280.1)]) (fun s279 g280 => [.ow 23 g27_0 s26.1, .ow 2 g27_1 s26.2.1, .ow 23 g27_2 s26.2.2.1, .bx b22 52 [g27_0, g27_1, g27_2, .bool s26.2.2.2.1], .od 23 g280.1 s279.2 g280.2]) (r271, ([] : List (List Int))) ((.slice (some ⟨b278, 0, none⟩) 0 0), ([] : List Nat)) ⟨rfl, rfl, rfl, trivial⟩ [1, 2, 3, 4, 0] rfl rfl (fun s279 g280 => ?_) (fun s279 g280 => ?_)
            · obtain ⟨g280_0, g280_1⟩ := g280
              unfold F_spec_DerivationOf_L2
              refine J_seq ?_
              refine J_seq ?_
              refine J_region ?_
              refine JL_q (wants_none rfl) rfl (ex_move rfl) ?_
              refine JL_q (wants_none rfl) rfl (ex_gtr rfl rfl) ?_
              refine JL_nil ?_
              refine N_then ?_
              refine J_if rfl (fun h281 => ?_) (fun h281 => ?_)
              · refine J_skip ?_
                refine N_then ?_
                refine J_seq ?_
                refine J_block ?_
                refine J_region ?_
                refine JL_q (wants_none rfl) rfl (ex_move rfl) ?_
                refine JL_q (wants_none rfl) rfl (ex_nilCheck rfl) ?_
                refine JL_q (wants_none rfl) rfl (ex_fieldAddr fi_52_2 rfl rfl) ?_
                refine JL_q (wants_none rfl) rfl (ex_load_bx 3 ti_33 rfl rfl rfl) ?_
                refine JL_q (wants_none rfl) rfl (ex_move rfl) ?_
                refine JL_bnd fun y282 hy283 => ?_
                refine JL_ow_open (v := g27_2) 2 rfl hy283 ?_; rintro b284 cap285 rfl
                refine JL_q (wants_none rfl) rfl (ex_index_ow 2 Try.underlying33 ti_23 rfl rfl rfl hy283) ?_
                refine JL_st (wants_none rfl) rfl (st_load_ow_o 2 (opens_sl _) ti_23 rfl rfl hy283) (fun v286 => ?_)
                refine JL_bnd fun r287 hr288 => ?_
                refine JL_call (wants_none rfl) rfl Try.call36 rfl (Ca_self (fun _ => rfl) fun w hh => c_spec_l00Own _ w (fun _ hk => hk.elim) _ _ (hh.rd0 0 rfl) _ hr288) (fun x289 => ?_)
                refine JL_ctx (fun w hh => hh.tokf 0 rfl rfl) ?_
                refine JL_st (wants_none rfl) rfl (st_buildSlice_od (vs := [x289]) (B := (((x289 : Value).ownBlock.toList ++ []) ++ [])) ([r287] : List (List Int)) [0] Try.underlying33 ti_23 zi_23 rfl rfl rfl rfl rfl (fun w hh => (dwv_cons (hh.dw 0 rfl) dwv_nil))) (fun b290 => ?_)
                refine JL_q (wants_none rfl) rfl (ex_move rfl) ?_
                refine JL_bnd fun z291 hz292 => ?_
                refine JL_st (wants_none rfl) rfl (st_append_od 0 8 Try.underlying33 ti_23 zi_23 rfl bi_23 rfl rfl rfl rfl rfl rfl hz292) (fun v293 => ?_)
                refine JL_q (wants_none rfl) rfl (ex_assign rfl) ?_
                refine JL_nil ?_
                refine N_block ?_
                refine N_then ?_
                refine J_region ?_
                refine JL_q (wants_none rfl) rfl (ex_move rfl) ?_
                refine JL_q (wants_none rfl) rfl (ex_nilCheck rfl) ?_
                refine JL_q (wants_none rfl) rfl (ex_fieldAddr fi_52_1 rfl rfl) ?_
                refine JL_q (wants_none rfl) rfl (ex_load_bx 7 ti_23 rfl rfl rfl) ?_
                refine JL_q (wants_none rfl) rfl (ex_move rfl) ?_
                refine JL_bnd fun y294 hy295 => ?_
                refine JL_ow_open (v := g27_1) 5 rfl hy295 ?_; rintro b296 cap297 rfl
                refine JL_q (wants_none rfl) rfl (ex_index_ow 5 Try.underlying23 ti_2 rfl rfl rfl hy295) ?_
                refine JL_q (wants_none rfl) rfl (ex_load_ow_int 5 ti_2 rfl rfl hy295) ?_
                refine JL_q (wants_none rfl) rfl (ex_assign rfl) ?_
                refine JL_nil ?_
                exact N_next' (v293, ((((x289 : Value).ownBlock.toList ++ []) ++ []) ++ g280_1)) ⟨rfl, rfl, rfl, trivial⟩ [4, 5, 6, 7, 0] rfl rfl
              · refine J_exit ?_
                refine N_then_exit ?_
                exact N_break' (g280_0, g280_1) ⟨rfl, rfl, rfl, trivial⟩ [0, 1, 2, 3, 4] rfl rfl
            · obtain ⟨g280_0, g280_1⟩ := g280
              refine N_then ?_
              refine J_seq ?_
              refine J_seq ?_
              refine J_region ?_
              refine JL_q (wants_none rfl) rfl (ex_move rfl) ?_
              refine JL_q (wants_none rfl) rfl (ex_od 4 rfl (ex_len_ow 4 Try.underlying33 rfl rfl)) ?_
              refine JL_q (wants_none rfl) rfl (ex_gtr rfl rfl) ?_
              refine JL_nil ?_
              refine N_then ?_
              refine J_if rfl (fun h299 => ?_) (fun h299 => ?_)
              · refine J_seq ?_
                refine J_region ?_
                refine JL_q (wants_none rfl) rfl (ex_assign rfl) ?_
                refine JL_q (wants_none rfl) rfl (ex_assign rfl) ?_
                refine JL_nil ?_
                refine N_then ?_
                refine J_ret ?_
                refine N_then_ret ?_
                refine N_ctx (fun w hh => SH.od_nil (α := (List Int)) 23 hh) ?_
                exact N_ret2 rfl (rv_tmp rfl) (rv_tmp rfl) (fun w hh => ⟨((.slice none 0 0 : Value), ([] : List Nat)), rfl, hh.sel [0] rfl⟩)
              · refine J_skip ?_
                refine N_then ?_
                refine J_seq ?_
                refine J_region ?_
                refine JL_q (wants_none rfl) rfl (ex_move rfl) ?_
                refine JL_q (wants_none rfl) rfl (ex_assign rfl) ?_
                refine JL_q (wants_none rfl) rfl (ex_assign rfl) ?_
                refine JL_nil ?_
                refine N_then ?_
                refine J_ret ?_
                exact N_ret2 rfl (rv_tmp rfl) (rv_tmp rfl) (fun w hh => ⟨(g280_0, g280_1), rfl, hh.sel [4] rfl⟩)

set_option maxHeartbeats 40000000 in
theorem c_impl_size_impl_Rewrite (A : Nat → Prop) (w : World) (hA : ∀ k, A k → k < w.heap.size) (v0_ : Value) (p0 : (List GRewrite)) (hp0 : Rd A w v0_ p0) (r : Int) (hr : F_impl_size_impl_Rewrite p0 = some r) :
    Con Try.prog 62 [v0_] A w (fun x_ : Unit => .int .i64 r) (fun x_ => []) := by
  refine Con_of (v := fun (r : Int) (x_ : Unit) => .int .i64 r) (fs := fun r x_ => []) Try.func62 rfl Try.ntmps62 rfl ((SH.start hA).start_rd rfl hp0) rfl ?_ hr
  unfold F_impl_size_impl_Rewrite
  refine J_seq ?_
  refine J_region ?_
  refine JL_q (wants_none rfl) rfl (ex_assign rfl) ?_
  refine JL_nil ?_
  refine N_then ?_
  refine J_seq ?_
  refine J_region ?_
  refine JL_q (wants_none rfl) rfl (ex_move rfl) ?_
  refine JL_q (wants_none rfl) rfl (ex_len_rd 0 Try.underlying27 rfl rfl) ?_
  refine JL_q (wants_none rfl) rfl (ex_assign rfl) ?_
  refine JL_nil ?_
  refine N_then ?_
  refine J_ret ?_
  exact N_ret1 rfl (rv_tmp rfl) (fun w hh => ⟨(), rfl, hh.sel [] rfl⟩)

set_option maxHeartbeats 40000000 in
theorem c_impl_within (A : Nat → Prop) (w : World) (hA : ∀ k, A k → k < w.heap.size) (p0 : Int) (p1 : Int) (p2 : Int) (r : Bool) (hr : F_impl_within p0 p1 p2 = some r) :
    Con Try.prog 61 [.int .i64 p0, .int .i64 p1, .int .i64 p2] A w (fun x_ : Unit => .bool r) (fun x_ => []) := by
  refine Con_of (v := fun (r : Bool) (x_ : Unit) => .bool r) (fs := fun r x_ => []) Try.func61 rfl Try.ntmps61 rfl (SH.start hA) rfl ?_ hr
  unfold F_impl_within
  refine J_seq ?_
  refine J_region ?_
  refine JL_q (wants_none rfl) rfl (ex_assign rfl) ?_
  refine JL_nil ?_
  refine N_then ?_
  refine J_seq ?_
  refine J_region ?_
  refine JL_q (wants_none rfl) rfl (ex_move rfl) ?_
  refine JL_q (wants_none rfl) rfl (ex_move rfl) ?_
  refine JL_q (wants_none rfl) rfl (ex_leq rfl rfl) ?_
  refine JL_q (wants_none rfl) rfl (ex_move rfl) ?_
  refine JL_cond (fun h1 => ?_) (fun h1 => ?_)
  · refine JL_q (wants_some rfl rfl rfl h1) rfl (ex_move rfl) ?_
    refine JL_q (wants_some rfl rfl rfl h1) rfl (ex_move rfl) ?_
    refine JL_q (wants_some rfl rfl rfl h1) rfl (ex_leq rfl rfl) ?_
    refine JL_q (wants_none rfl) rfl (ex_pick_true rfl h1 rfl) ?_
    refine JL_q (wants_none rfl) rfl (ex_assign rfl) ?_
    refine JL_nil ?_
    refine N_then ?_
    refine J_ret ?_
    exact N_ret1 rfl (rv_tmp rfl) (fun w hh => ⟨(), rfl, hh.sel [] rfl⟩)
  · refine JL_passed rfl rfl rfl h1 ?_
    refine JL_passed rfl rfl rfl h1 ?_
    refine JL_passed rfl rfl rfl h1 ?_
    refine JL_q (wants_none rfl) rfl (ex_pick_false rfl h1 rfl) ?_
    refine JL_q (wants_none rfl) rfl (ex_assign rfl) ?_
    refine JL_nil ?_
    refine N_then ?_
    refine J_ret ?_
    exact N_ret1 rfl (rv_tmp rfl) (fun w hh => ⟨(), rfl, hh.sel [] rfl⟩)

set_option maxHeartbeats 40000000 in
theorem c_slices_IndexFunc_Simpl_Rewrite_impl_Rewrite (A : Nat → Prop) (w : World) (hA : ∀ k, A k → k < w.heap.size) (v0_ : Value) (p0 : (List GRewrite)) (hp0 : Rd A w v0_ p0) (v1_ : Value) (p1 : (GRewrite → Option Bool)) (hp1 : Clo Try.prog w v1_ p1 .bool) (r : Int) (hr : F_slices_IndexFunc_Simpl_Rewrite_impl_Rewrite p0 p1 = some r) :
    Con Try.prog 70 [v0_, v1_] A w (fun x_ : Unit => .int .i64 r) (fun x_ => []) := by
  refine Con_of (v := fun (r : Int) (x_ : Unit) => .int .i64 r) (fs := fun r x_ => []) Try.func70 rfl Try.ntmps70 rfl ((SH.start hA).start_rd rfl hp0) rfl ?_ hr
  unfold F_slices_IndexFunc_Simpl_Rewrite_impl_Rewrite
  refine J_seq ?_
  refine J_region ?_
  refine JL_q (wants_none rfl) rfl (ex_assign rfl) ?_
  refine JL_nil ?_
  refine N_then ?_
  refine J_seq ?_
  refine J_seq ?_
  refine J_region ?_
  refine JL_q (wants_none rfl) rfl (ex_move rfl) ?_
  refine JL_q (wants_none rfl) rfl (ex_len_rd 0 Try.underlying27 rfl rfl) ?_
  refine JL_q (wants_none rfl) rfl (ex_move rfl) ?_
  refine JL_nil ?_
  refine N_then ?_
  refine J_loop' (S := Int) (G := Unit) (F_slices_IndexFunc_Simpl_Rewrite_impl_Rewrite_L1 p0 p1) (fun s1 _ => [(0, v0_), (1, v1_), (7, .int .i64 (p0.length : Int)), (8, .int .i64 s1)]) (fun s1 _ => [.rd v0_ p0]) 0 () ⟨rfl, rfl, rfl, rfl, trivial⟩ [0] rfl rfl (fun s1 g2 => ?_) (fun s1 g2 => ?_)
  · unfold F_slices_IndexFunc_Simpl_Rewrite_impl_Rewrite_L1
    refine J_seq ?_
    refine J_region ?_
    refine JL_q (wants_none rfl) rfl (ex_lss rfl rfl) ?_
    refine JL_nil ?_
    refine N_then ?_
    refine J_seq ?_
    refine J_if rfl (fun h3 => ?_) (fun h3 => ?_)
    · refine J_skip ?_
      refine N_then ?_
      refine J_seq ?_
      refine J_block ?_
      refine J_seq ?_
      refine J_region ?_
      refine JL_q (wants_none rfl) rfl (ex_move rfl) ?_
      refine JL_q (wants_none rfl) rfl (ex_assign rfl) ?_
      refine JL_nil ?_
      refine N_then ?_
      refine J_seq ?_
      refine J_region ?_
      refine JL_q (wants_none rfl) rfl (ex_move rfl) ?_
      refine JL_q (wants_none rfl) rfl (ex_move rfl) ?_
      refine JL_q (wants_none rfl) rfl (ex_move rfl) ?_
      refine JL_bnd fun y4 hy5 => ?_
      refine JL_st (wants_none rfl) rfl (st_index 0 Try.underlying27 ti_54 rfl rfl rfl hy5) (fun q6 => ?_)
      refine JL_st (wants_none rfl) rfl (st_load_pt_o 0 (GRewrite.opens _) ti_54 rfl rfl) (fun v7 => ?_)
      refine JL_bnd fun r8 hr9 => ?_
      refine JL_clo (wants_none rfl) rfl hp1 rfl rfl (fun w hh => (GRewrite.rdmk (hh.rd0 0 rfl) (hh.rd0 1 rfl))) hr9 ?_
      refine JL_nil ?_
      refine N_then ?_
      refine J_if rfl (fun h10 => ?_) (fun h10 => ?_)
      · refine J_seq ?_
        refine J_region ?_
        refine JL_q (wants_none rfl) rfl (ex_move rfl) ?_
        refine JL_q (wants_none rfl) rfl (ex_assign rfl) ?_
        refine JL_nil ?_
        refine N_then ?_
        refine J_ret ?_
        refine N_block_ret ?_
        refine N_then_ret ?_
        refine N_round_ret ?_
        refine N_then_ret ?_
        exact N_ret1 rfl (rv_tmp rfl) (fun w hh => ⟨(), rfl, hh.sel [] rfl⟩)
      · refine J_skip ?_
        refine N_block ?_
        refine N_then ?_
        refine J_region ?_
        refine JL_q (wants_none rfl) rfl (ex_add rfl rfl) ?_
        refine JL_q (wants_none rfl) rfl (ex_move rfl) ?_
        refine JL_nil ?_
        exact N_next' () ⟨rfl, rfl, rfl, rfl, trivial⟩ [3] rfl rfl
    · refine J_exit ?_
      refine N_then_exit ?_
      exact N_break' () ⟨rfl, rfl, rfl, rfl, trivial⟩ [0] rfl rfl
  · refine N_then ?_
    refine J_seq ?_
    refine J_region ?_
    refine JL_q (wants_none rfl) rfl (ex_assign rfl) ?_
    refine JL_nil ?_
    refine N_then ?_
    refine J_ret ?_
    exact N_ret1 rfl (rv_tmp rfl) (fun w hh => ⟨(), rfl, hh.sel [] rfl⟩)

set_option maxHeartbeats 40000000 in
theorem c_slices_ContainsFunc_Simpl_Rewrite_impl_Rewrite (A : Nat → Prop) (w : World) (hA : ∀ k, A k → k < w.heap.size) (v0_ : Value) (p0 : (List GRewrite)) (hp0 : Rd A w v0_ p0) (v1_ : Value) (p1 : (GRewrite → Option Bool)) (hp1 : Clo Try.prog w v1_ p1 .bool) (r : Bool) (hr : F_slices_ContainsFunc_Simpl_Rewrite_impl_Rewrite p0 p1 = some r) :
    Con Try.prog 57 [v0_, v1_] A w (fun x_ : Unit => .bool r) (fun x_ => []) := by
  refine Con_of (v := fun (r : Bool) (x_ : Unit) => .bool r) (fs := fun r x_ => []) Try.func57 rfl Try.ntmps57 rfl ((SH.start hA).start_rd rfl hp0) rfl ?_ hr
  unfold F_slices_ContainsFunc_Simpl_Rewrite_impl_Rewrite
  refine J_seq ?_
  refine J_region ?_
  refine JL_q (wants_none rfl) rfl (ex_assign rfl) ?_
  refine JL_nil ?_
  refine N_then ?_
  refine J_seq ?_
  refine J_region ?_
  refine JL_q (wants_none rfl) rfl (ex_move rfl) ?_
  refine JL_q (wants_none rfl) rfl (ex_move rfl) ?_
  refine JL_bnd fun r1 hr2 => ?_
  refine JL_call (wants_none rfl) rfl Try.call70 rfl (Ca_of0 fun w hh => c_slices_IndexFunc_Simpl_Rewrite_impl_Rewrite _ w (fun _ hk => hk.elim) _ _ (hh.rd0 0 rfl) _ _ (hp1.later hh.below) _ hr2) (fun _ => ?_)
  refine JL_q (wants_none rfl) rfl (ex_geq rfl rfl) ?_
  refine JL_q (wants_none rfl) rfl (ex_assign rfl) ?_
  refine JL_nil ?_
  refine N_then ?_
  refine J_ret ?_
  exact N_ret1 rfl (rv_tmp rfl) (fun w hh => ⟨(), rfl, hh.sel [] rfl⟩)

set_option maxHeartbeats 40000000 in
theorem c_slices_IndexFunc_SSint64_Sint64 (A : Nat → Prop) (w : World) (hA : ∀ k, A k → k < w.heap.size) (v0_ : Value) (p0 : (List (List Int))) (hp0 : Rd A w v0_ p0) (v1_ : Value) (p1 : ((List Int) → Option Bool)) (hp1 : Clo Try.prog w v1_ p1 .bool) (r : Int) (hr : F_slices_IndexFunc_SSint64_Sint64 p0 p1 = some r) :
    Con Try.prog 56 [v0_, v1_] A w (fun x_ : Unit => .int .i64 r) (fun x_ => []) := by
  refine Con_of (v := fun (r : Int) (x_ : Unit) => .int .i64 r) (fs := fun r x_ => []) Try.func56 rfl Try.ntmps56 rfl ((SH.start hA).start_rd rfl hp0) rfl ?_ hr
  unfold F_slices_IndexFunc_SSint64_Sint64
  refine J_seq ?_
  refine J_region ?_
  refine JL_q (wants_none rfl) rfl (ex_assign rfl) ?_
  refine JL_nil ?_
  refine N_then ?_
  refine J_seq ?_
  refine J_seq ?_
  refine J_region ?_
  refine JL_q (wants_none rfl) rfl (ex_move rfl) ?_
  refine JL_q (wants_none rfl) rfl (ex_len_rd 0 Try.underlying33 rfl rfl) ?_
  refine JL_q (wants_none rfl) rfl (ex_move rfl) ?_
  refine JL_nil ?_
  refine N_then ?_
  refine J_loop' (S := Int) (G := Unit) (F_slices_IndexFunc_SSint64_Sint64_L1 p0 p1) (fun s1 _ => [(0, v0_), (1, v1_), (7, .int .i64 (p0.length : Int)), (8, .int .i64 s1)]) (fun s1 _ => [.rd v0_ p0]) 0 () ⟨rfl, rfl, rfl, rfl, trivial⟩ [0] rfl rfl (fun s1 g2 => ?_) (fun s1 g2 => ?_)
  · unfold F_slices_IndexFunc_SSint64_Sint64_L1
    refine J_seq ?_
    refine J_region ?_
    refine JL_q (wants_none rfl) rfl (ex_lss rfl rfl) ?_
    refine JL_nil ?_
    refine N_then ?_
    refine J_seq ?_
    refine J_if rfl (fun h3 => ?_) (fun h3 => ?_)
    · refine J_skip ?_
      refine N_then ?_
      refine J_seq ?_
      refine J_block ?_
      refine J_seq ?_
      refine J_region ?_
      refine JL_q (wants_none rfl) rfl (ex_move rfl) ?_
      refine JL_q (wants_none rfl) rfl (ex_assign rfl) ?_
      refine JL_nil ?_
      refine N_then ?_
      refine J_seq ?_
      refine J_region ?_
      refine JL_q (wants_none rfl) rfl (ex_move rfl) ?_
      refine JL_q (wants_none rfl) rfl (ex_move rfl) ?_
      refine JL_q (wants_none rfl) rfl (ex_move rfl) ?_
      refine JL_bnd fun y4 hy5 => ?_
      refine JL_st (wants_none rfl) rfl (st_index 0 Try.underlying33 ti_23 rfl rfl rfl hy5) (fun q6 => ?_)
      refine JL_st (wants_none rfl) rfl (st_load_pt_o 0 (opens_sl _) ti_23 rfl rfl) (fun v7 => ?_)
      refine JL_bnd fun r8 hr9 => ?_
      refine JL_clo (wants_none rfl) rfl hp1 rfl rfl (fun w hh => (hh.rd0 0 rfl)) hr9 ?_
      refine JL_nil ?_
      refine N_then ?_
      refine J_if rfl (fun h10 => ?_) (fun h10 => ?_)
      · refine J_seq ?_
        refine J_region ?_
        refine JL_q (wants_none rfl) rfl (ex_move rfl) ?_
        refine JL_q (wants_none rfl) rfl (ex_assign rfl) ?_
        refine JL_nil ?_
        refine N_then ?_
        refine J_ret ?_
        refine N_block_ret ?_
        refine N_then_ret ?_
        refine N_round_ret ?_
        refine N_then_ret ?_
        exact N_ret1 rfl (rv_tmp rfl) (fun w hh => ⟨(), rfl, hh.sel [] rfl⟩)
      · refine J_skip ?_
        refine N_block ?_
        refine N_then ?_
        refine J_region ?_
        refine JL_q (wants_none rfl) rfl (ex_add rfl rfl) ?_
        refine JL_q (wants_none rfl) rfl (ex_move rfl) ?_
        refine JL_nil ?_
        exact N_next' () ⟨rfl, rfl, rfl, rfl, trivial⟩ [2] rfl rfl
    · refine J_exit ?_
      refine N_then_exit ?_
      exact N_break' () ⟨rfl, rfl, rfl, rfl, trivial⟩ [0] rfl rfl
  · refine N_then ?_
    refine J_seq ?_
    refine J_region ?_
    refine JL_q (wants_none rfl) rfl (ex_assign rfl) ?_
    refine JL_nil ?_
    refine N_then ?_
    refine J_ret ?_
    exact N_ret1 rfl (rv_tmp rfl) (fun w hh => ⟨(), rfl, hh.sel [] rfl⟩)

set_option maxHeartbeats 40000000 in
theorem c_slices_ContainsFunc_SSint64_Sint64 (A : Nat → Prop) (w : World) (hA : ∀ k, A k → k < w.heap.size) (v0_ : Value) (p0 : (List (List Int))) (hp0 : Rd A w v0_ p0) (v1_ : Value) (p1 : ((List Int) → Option Bool)) (hp1 : Clo Try.prog w v1_ p1 .bool) (r : Bool) (hr : F_slices_ContainsFunc_SSint64_Sint64 p0 p1 = some r) :
    Con Try.prog 64 [v0_, v1_] A w (fun x_ : Unit => .bool r) (fun x_ => []) := by
  refine Con_of (v := fun (r : Bool) (x_ : Unit) => .bool r) (fs := fun r x_ => []) Try.func64 rfl Try.ntmps64 rfl ((SH.start hA).start_rd rfl hp0) rfl ?_ hr
  unfold F_slices_ContainsFunc_SSint64_Sint64
  refine J_seq ?_
  refine J_region ?_
  refine JL_q (wants_none rfl) rfl (ex_assign rfl) ?_
  refine JL_nil ?_
  refine N_then ?_
  refine J_seq ?_
  refine J_region ?_
  refine JL_q (wants_none rfl) rfl (ex_move rfl) ?_
  refine JL_q (wants_none rfl) rfl (ex_move rfl) ?_
  refine JL_bnd fun r1 hr2 => ?_
  refine JL_call (wants_none rfl) rfl Try.call56 rfl (Ca_of0 fun w hh => c_slices_IndexFunc_SSint64_Sint64 _ w (fun _ hk => hk.elim) _ _ (hh.rd0 0 rfl) _ _ (hp1.later hh.below) _ hr2) (fun _ => ?_)
  refine JL_q (wants_none rfl) rfl (ex_geq rfl rfl) ?_
  refine JL_q (wants_none rfl) rfl (ex_assign rfl) ?_
  refine JL_nil ?_
  refine N_then ?_
  refine J_ret ?_
  exact N_ret1 rfl (rv_tmp rfl) (fun w hh => ⟨(), rfl, hh.sel [] rfl⟩)

end Go.Proofs.Ytleedbicbiicpaa
