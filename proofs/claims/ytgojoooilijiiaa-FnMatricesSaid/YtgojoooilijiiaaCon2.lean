/-
  Each function of the program computes what its plain function says: printed by program. No condition.
-/
import Derived.Test.YtgojoooilijiiaaFn
import Derived.Test.YtgojoooilijiiaaInf
import Derived.Test.YtgojoooilijiiaaCon1
namespace Go.Proofs.Ytgojoooilijiiaa
open Go Go.Tc Go.Fn
set_option linter.unusedVariables false

set_option maxHeartbeats 40000000 in
theorem c_spec_R8Dominoes (A : Nat → Prop) (w : World) (hA : ∀ k, A k → k < w.heap.size) (v0_ : Value) (p0 : (List (Ik .u8))) (hp0 : Rd A w v0_ p0) (r : (List GDomino) × (List Int)) (hr : F_spec_R8Dominoes p0 = some r) :
    Con Try.prog 13 [v0_] A w (fun x_ : Value × List Nat × Value => .tuple #[x_.1, x_.2.2]) (fun x_ => [.od 50 x_.1 r.1 x_.2.1, .ow 2 x_.2.2 r.2]) := by
  refine Con_of (v := fun (r : (List GDomino) × (List Int)) (x_ : Value × List Nat × Value) => .tuple #[x_.1, x_.2.2]) (fs := fun r x_ => [.od 50 x_.1 r.1 x_.2.1, .ow 2 x_.2.2 r.2]) Try.func13 rfl Try.ntmps13 rfl ((SH.start hA).start_rd rfl hp0) rfl ?_ hr
  unfold F_spec_R8Dominoes
  refine J_seq ?_
  refine J_region ?_
  refine JL_q (wants_none rfl) rfl (ex_assign rfl) ?_
  refine JL_q (wants_none rfl) rfl (ex_assign rfl) ?_
  refine JL_nil ?_
  refine N_then ?_
  refine J_seq ?_
  refine J_region ?_
  refine JL_q (wants_none rfl) rfl (ex_move rfl) ?_
  refine JL_bnd fun r1 hr2 => ?_
  refine JL_call (wants_none rfl) rfl Try.call34 rfl (Ca_self (fun _ => rfl) fun w hh => c_spec_l00From _ w (fun _ hk => hk.elim) _ _ (hh.rd0 0 rfl) _ hr2) (fun x3 => ?_)
  obtain ⟨x3_0, x3_1⟩ := x3
  refine JL_ctx (fun w hh => hh.sub_rd 2 rfl (hh.pr 0 rfl)) ?_
  refine JL_q (wants_none rfl) rfl (ex_assign rfl) ?_
  refine JL_nil ?_
  refine N_then ?_
  refine J_seq ?_
  refine J_region ?_
  refine JL_q (wants_none rfl) rfl (ex_move rfl) ?_
  refine JL_bnd fun r4 hr5 => ?_
  refine JL_callT (wants_none rfl) rfl Try.call53 rfl (CaT_of [2] [0, 1, 3] rfl rfl (fun _ => rfl) fun w hh => c_spec_l32DrawOk w x3_1 (⟨r1.1, r1.2.1, r1.2.2⟩ : Gl00Src) x3_0 _ rfl (hh.handed [2] rfl rfl rfl rfl) (hh.apart [2] rfl (hh.rd 0 rfl)) _ hr5) (fun x6 => ?_)
  obtain ⟨x6_0, x6_1⟩ := x6
  refine JL_q (wants_none rfl) rfl (ex_assign rfl) ?_
  refine JL_nil ?_
  refine N_then ?_
  refine J_seq ?_
  refine J_region ?_
  refine JL_st (wants_none rfl) rfl (st_buildSlice (vs := []) ([] : List Int) Try.underlying27 ti_2 zi_2 rfl rfl rfl (fun w hh => trivial)) (fun b7 => ?_)
  refine JL_q (wants_none rfl) rfl (ex_assign rfl) ?_
  refine JL_nil ?_
  refine N_then ?_
  refine J_seq ?_
  refine J_seq ?_
  refine J_region ?_
  refine JL_q (wants_none rfl) rfl (ex_move rfl) ?_
  refine JL_bnd fun r8 hr9 => ?_
  refine JL_callT (wants_none rfl) rfl Try.call36 rfl (CaT_of [2] [0, 1, 3, 4, 5] rfl rfl (fun _ => rfl) fun w hh => c_spec_l00Src_pick w x3_1 (⟨r1.1, r4.2.1, r4.2.2⟩ : Gl00Src) x3_0 _ rfl (hh.handed [2] rfl rfl rfl rfl) (hh.apart [2] rfl (hh.rd 3 rfl)) _ _ hr9) (fun _ => ?_)
  refine JL_q (wants_none rfl) rfl (ex_add rfl rfl) ?_
  refine JL_q (wants_none rfl) rfl (ex_assign rfl) ?_
  refine JL_nil ?_
  refine N_then ?_
  refine J_loop' (S := Int × (Ik .u64) × (List Int) × Int) (G := Value) (F_spec_R8Dominoes_L1 r1 r4) (fun s10 g11 => [(4, .pointer (some ⟨x3_1, 0, none⟩)), (5, x6_0), (6, g11), (7, .int .i64 s10.2.2.2)]) (fun s10 g11 => [.rd x3_0 r1.1, .pr (Sub v0_ p0 x3_0 r1.1), .bx x3_1 131 [x3_0, .int .i64 s10.1, .int .u64 s10.2.1.val], .od 50 x6_0 r4.1 x6_1, .ow 2 g11 s10.2.2.1]) (r8.2.1, r8.2.2, ([] : List Int), (w64 (1 + r8.1))) (.slice (some ⟨b7, 0, none⟩) 0 0) ⟨rfl, rfl, rfl, rfl, trivial⟩ [3, 4, 0, 2, 1] rfl rfl (fun s10 g11 => ?_) (fun s10 g11 => ?_)
  · unfold F_spec_R8Dominoes_L1
    refine J_seq ?_
    refine J_seq ?_
    refine J_region ?_
    refine JL_q (wants_none rfl) rfl (ex_move rfl) ?_
    refine JL_q (wants_none rfl) rfl (ex_gtr rfl rfl) ?_
    refine JL_nil ?_
    refine N_then ?_
    refine J_if rfl (fun h12 => ?_) (fun h12 => ?_)
    · refine J_skip ?_
      refine N_then ?_
      refine J_seq ?_
      refine J_block ?_
      refine J_region ?_
      refine JL_q (wants_none rfl) rfl (ex_move rfl) ?_
      refine JL_q (wants_none rfl) rfl (ex_move rfl) ?_
      refine JL_q (wants_none rfl) rfl (ex_move rfl) ?_
      refine JL_q (wants_none rfl) rfl (ex_od 3 rfl (ex_len_ow 3 Try.underlying38 rfl rfl)) ?_
      refine JL_bnd fun r13 hr14 => ?_
      refine JL_callT (wants_none rfl) rfl Try.call36 rfl (CaT_of [2] [0, 1, 3, 4] rfl rfl (fun _ => rfl) fun w hh => c_spec_l00Src_pick w x3_1 (⟨r1.1, s10.1, s10.2.1⟩ : Gl00Src) x3_0 _ rfl (hh.handed [2] rfl rfl rfl rfl) (hh.apart [2] rfl (hh.rd 0 rfl)) _ _ hr14) (fun _ => ?_)
      refine JL_st (wants_none rfl) rfl (st_buildSlice (vs := [.int .i64 r13.1]) ([r13.1] : List Int) Try.underlying27 ti_2 zi_2 rfl rfl rfl (fun w hh => ⟨(Rd.mk_int _ _ _), trivial⟩)) (fun b15 => ?_)
      refine JL_bnd fun z16 hz17 => ?_
      refine JL_st (wants_none rfl) rfl (st_append 5 Try.underlying27 ti_2 zi_2 rfl bi_2 rfl rfl rfl rfl (fun w hh => hh.src_ow 0 rfl) hz17) (fun v18 => ?_)
      refine JL_q (wants_none rfl) rfl (ex_assign rfl) ?_
      refine JL_nil ?_
      refine N_block ?_
      refine N_then ?_
      refine J_region ?_
      refine JL_q (wants_none rfl) rfl (ex_move rfl) ?_
      refine JL_q (wants_none rfl) rfl (ex_sub rfl rfl) ?_
      refine JL_q (wants_none rfl) rfl (ex_assign rfl) ?_
      refine JL_nil ?_
      exact N_next' v18 ⟨rfl, rfl, rfl, rfl, trivial⟩ [2, 3, 1, 4, 5] rfl rfl
    · refine J_exit ?_
      refine N_then_exit ?_
      exact N_break' g11 ⟨rfl, rfl, rfl, rfl, trivial⟩ [0, 1, 2, 3, 4] rfl rfl
  · refine N_then ?_
    refine J_seq ?_
    refine J_region ?_
    refine JL_q (wants_none rfl) rfl (ex_move rfl) ?_
    refine JL_inline (wants_none rfl) rfl Try.call54 rfl Try.func54 rfl Try.ntmps54 rfl rfl (fun K_ hK19 => ?_)
    refine J_seq ?_
    refine J_region ?_
    refine JL_q (wants_none rfl) rfl (ex_assign rfl) ?_
    refine JL_q (wants_none rfl) rfl (ex_assign rfl) ?_
    refine JL_nil ?_
    refine N_then ?_
    refine J_seq ?_
    refine J_seq ?_
    refine J_region ?_
    refine JL_q (wants_none rfl) rfl (ex_move rfl) ?_
    refine JL_bnd fun r20 hr21 => ?_
    refine JL_call (wants_none rfl) rfl Try.call101 rfl (Ca_of0 fun w hh => c_spec_l32Is _ w (fun _ hk => hk.elim) _ _ (hh.od0 3 rfl) _ hr21) (fun _ => ?_)
    refine JL_q (wants_none rfl) rfl (ex_not rfl) ?_
    refine JL_nil ?_
    refine N_then ?_
    refine J_if rfl (fun h22 => ?_) (fun h22 => ?_)
    · refine J_seq ?_
      refine J_region ?_
      refine JL_q (wants_none rfl) rfl (ex_assign rfl) ?_
      refine JL_q (wants_none rfl) rfl (ex_assign rfl) ?_
      refine JL_nil ?_
      refine N_then ?_
      refine J_ret ?_
      refine N_then_ret ?_
      refine N_inl2 hK19 rfl (rv_tmp rfl) (rv_tmp rfl) ?_
      refine JL_q (wants_none rfl) rfl (ex_move rfl) ?_
      refine JL_q (wants_none rfl) rfl (ex_extract rfl rfl) ?_
      refine JL_q (wants_none rfl) rfl (ex_extract rfl rfl) ?_
      refine JL_q (wants_none rfl) rfl (ex_assign rfl) ?_
      refine JL_q (wants_none rfl) rfl (ex_assign rfl) ?_
      refine JL_nil ?_
      refine N_then ?_
      refine J_seq ?_
      refine J_seq ?_
      refine J_region ?_
      refine JL_q (wants_none rfl) rfl (ex_move rfl) ?_
      refine JL_q (wants_none rfl) rfl (ex_eql rfl rfl) ?_
      refine JL_q (wants_none rfl) rfl (ex_move rfl) ?_
      refine JL_passed rfl rfl rfl (by decide) ?_
      refine JL_passed rfl rfl rfl (by decide) ?_
      refine JL_q (wants_none rfl) rfl (ex_pick_false rfl (by decide) rfl) ?_
      refine JL_nil ?_
      refine N_then ?_
      refine J_if_false rfl rfl ?_
      refine J_skip ?_
      refine N_then ?_
      refine J_seq ?_
      refine J_region ?_
      refine JL_q (wants_none rfl) rfl (ex_move rfl) ?_
      refine JL_q (wants_none rfl) rfl (ex_move rfl) ?_
      refine JL_q (wants_none rfl) rfl (ex_assign rfl) ?_
      refine JL_q (wants_none rfl) rfl (ex_assign rfl) ?_
      refine JL_nil ?_
      refine N_then ?_
      refine J_ret ?_
      exact N_ret2 rfl (rv_tmp rfl) (rv_tmp rfl) (fun w hh => ⟨(x6_0, x6_1, g11), rfl, hh.sel [3, 4] rfl⟩)
    · refine J_skip ?_
      refine N_then ?_
      refine J_seq ?_
      refine J_seq ?_
      refine J_region ?_
      refine JL_q (wants_none rfl) rfl (ex_move rfl) ?_
      refine JL_bnd fun r23 hr24 => ?_
      refine JL_call (wants_none rfl) rfl Try.call102 rfl (Ca_of0 fun w hh => c_spec_l05Budget _ w (fun _ hk => hk.elim) _ _ hr24) (fun _ => ?_)
      refine JL_q (wants_none rfl) rfl (ex_not rfl) ?_
      refine JL_q (wants_none rfl) rfl (ex_move rfl) ?_
      refine JL_cond (fun h25 => ?_) (fun h25 => ?_)
      · refine JL_passed rfl rfl rfl h25 ?_
        refine JL_passed rfl rfl rfl h25 ?_
        refine JL_passed rfl rfl rfl h25 ?_
        refine JL_passed rfl rfl rfl h25 ?_
        refine JL_passed rfl rfl rfl h25 ?_
        refine JL_passed rfl rfl rfl h25 ?_
        refine JL_q (wants_none rfl) rfl (ex_pick_true rfl h25 rfl) ?_
        refine JL_nil ?_
        refine N_then ?_
        refine J_if_true rfl rfl ?_
        refine J_seq ?_
        refine J_region ?_
        refine JL_q (wants_none rfl) rfl (ex_assign rfl) ?_
        refine JL_q (wants_none rfl) rfl (ex_assign rfl) ?_
        refine JL_nil ?_
        refine N_then ?_
        refine J_ret ?_
        refine N_then_ret ?_
        refine N_inl2 hK19 rfl (rv_tmp rfl) (rv_tmp rfl) ?_
        refine JL_q (wants_none rfl) rfl (ex_move rfl) ?_
        refine JL_q (wants_none rfl) rfl (ex_extract rfl rfl) ?_
        refine JL_q (wants_none rfl) rfl (ex_extract rfl rfl) ?_
        refine JL_q (wants_none rfl) rfl (ex_assign rfl) ?_
        refine JL_q (wants_none rfl) rfl (ex_assign rfl) ?_
        refine JL_nil ?_
        refine N_then ?_
        refine J_seq ?_
        refine J_seq ?_
        refine J_region ?_
        refine JL_q (wants_none rfl) rfl (ex_move rfl) ?_
        refine JL_q (wants_none rfl) rfl (ex_eql rfl rfl) ?_
        refine JL_q (wants_none rfl) rfl (ex_move rfl) ?_
        refine JL_passed rfl rfl rfl (by decide) ?_
        refine JL_passed rfl rfl rfl (by decide) ?_
        refine JL_q (wants_none rfl) rfl (ex_pick_false rfl (by decide) rfl) ?_
        refine JL_nil ?_
        refine N_then ?_
        refine J_if_false rfl rfl ?_
        refine J_skip ?_
        refine N_then ?_
        refine J_seq ?_
        refine J_region ?_
        refine JL_q (wants_none rfl) rfl (ex_move rfl) ?_
        refine JL_q (wants_none rfl) rfl (ex_move rfl) ?_
        refine JL_q (wants_none rfl) rfl (ex_assign rfl) ?_
        refine JL_q (wants_none rfl) rfl (ex_assign rfl) ?_
        refine JL_nil ?_
        refine N_then ?_
        refine J_ret ?_
        exact N_ret2 rfl (rv_tmp rfl) (rv_tmp rfl) (fun w hh => ⟨(x6_0, x6_1, g11), rfl, hh.sel [3, 4] rfl⟩)
      · refine JL_q (wants_some rfl rfl rfl h25) rfl (ex_move rfl) ?_
        refine JL_q (wants_some rfl rfl rfl h25) rfl (ex_move rfl) ?_
        refine JL_q (wants_some rfl rfl rfl h25) rfl (ex_od 3 rfl (ex_len_ow 3 Try.underlying38 rfl rfl)) ?_
        refine JL_q (wants_some rfl rfl rfl h25) rfl (ex_sub rfl rfl) ?_
        refine JL_bnd fun r26 hr27 => ?_
        refine JL_call (wants_some rfl rfl rfl h25) rfl Try.call103 rfl (Ca_of0 fun w hh => c_spec_l00In _ w (fun _ hk => hk.elim) _ _ _ _ hr27) (fun _ => ?_)
        refine JL_q (wants_some rfl rfl rfl h25) rfl (ex_not rfl) ?_
        refine JL_q (wants_none rfl) rfl (ex_pick_false rfl h25 rfl) ?_
        refine JL_nil ?_
        refine N_then ?_
        refine J_if rfl (fun h28 => ?_) (fun h28 => ?_)
        · refine J_seq ?_
          refine J_region ?_
          refine JL_q (wants_none rfl) rfl (ex_assign rfl) ?_
          refine JL_q (wants_none rfl) rfl (ex_assign rfl) ?_
          refine JL_nil ?_
          refine N_then ?_
          refine J_ret ?_
          refine N_then_ret ?_
          refine N_inl2 hK19 rfl (rv_tmp rfl) (rv_tmp rfl) ?_
          refine JL_q (wants_none rfl) rfl (ex_move rfl) ?_
          refine JL_q (wants_none rfl) rfl (ex_extract rfl rfl) ?_
          refine JL_q (wants_none rfl) rfl (ex_extract rfl rfl) ?_
          refine JL_q (wants_none rfl) rfl (ex_assign rfl) ?_
          refine JL_q (wants_none rfl) rfl (ex_assign rfl) ?_
          refine JL_nil ?_
          refine N_then ?_
          refine J_seq ?_
          refine J_seq ?_
          refine J_region ?_
          refine JL_q (wants_none rfl) rfl (ex_move rfl) ?_
          refine JL_q (wants_none rfl) rfl (ex_eql rfl rfl) ?_
          refine JL_q (wants_none rfl) rfl (ex_move rfl) ?_
          refine JL_passed rfl rfl rfl (by decide) ?_
          refine JL_passed rfl rfl rfl (by decide) ?_
          refine JL_q (wants_none rfl) rfl (ex_pick_false rfl (by decide) rfl) ?_
          refine JL_nil ?_
          refine N_then ?_
          refine J_if_false rfl rfl ?_
          refine J_skip ?_
          refine N_then ?_
          refine J_seq ?_
          refine J_region ?_
          refine JL_q (wants_none rfl) rfl (ex_move rfl) ?_
          refine JL_q (wants_none rfl) rfl (ex_move rfl) ?_
          refine JL_q (wants_none rfl) rfl (ex_assign rfl) ?_
          refine JL_q (wants_none rfl) rfl (ex_assign rfl) ?_
          refine JL_nil ?_
          refine N_then ?_
          refine J_ret ?_
          exact N_ret2 rfl (rv_tmp rfl) (rv_tmp rfl) (fun w hh => ⟨(x6_0, x6_1, g11), rfl, hh.sel [3, 4] rfl⟩)
        · refine J_skip ?_
          refine N_then ?_
          refine J_seq ?_
          refine J_region ?_
          refine JL_q (wants_none rfl) rfl (ex_move rfl) ?_
          refine JL_q (wants_none rfl) rfl (ex_move rfl) ?_
          refine JL_q (wants_none rfl) rfl (ex_move rfl) ?_
          refine JL_inline (wants_none rfl) rfl Try.call104 rfl Try.func104 rfl Try.ntmps104 rfl rfl (fun K_ hK29 => ?_)
          refine J_seq ?_
          refine J_region ?_
          refine JL_q (wants_none rfl) rfl (ex_assign rfl) ?_
          refine JL_q (wants_none rfl) rfl (ex_assign rfl) ?_
          refine JL_nil ?_
          refine N_then ?_
          refine J_seq ?_
          refine J_region ?_
          refine JL_q (wants_none rfl) rfl (ex_build si_170 rfl (.cons fi_170_2 rfl rfl (.cons fi_170_3 rfl rfl .nil)) (fun w hh => ⟨cv_int, cv_int, trivial⟩)) ?_
          refine JL_st (wants_none rfl) rfl (st_buildSlice_od (vs := [.agg #[.slice none 0 0, .bool false, .int .i64 (-1), .int .i64 (-1)]]) (B := ([] : List Nat)) ([(⟨([] : (List Int)), false, (-1), (-1)⟩ : Gl32Rest)] : List Gl32Rest) [] Try.underlying171 ti_170 zi_170 rfl rfl rfl rfl rfl (fun w hh => (dwv_cons (Gl32Rest.dw dw_nil) dwv_nil))) (fun b30 => ?_)
          refine JL_q (wants_none rfl) rfl (ex_assign rfl) ?_
          refine JL_nil ?_
          refine N_then ?_
          refine J_seq ?_
          refine J_region ?_
          refine JL_q (wants_none rfl) rfl (ex_assign rfl) ?_
          refine JL_nil ?_
          refine N_then ?_
          refine J_seq ?_
          refine J_seq ?_
          refine J_region ?_
          refine JL_q (wants_none rfl) rfl (ex_assign rfl) ?_
          refine JL_nil ?_
          refine N_then ?_
          refine J_ctx (fun w hh => hh.od_ow 0 rfl) ?_
          refine J_loop' (S := (List Gl32Rest) × Bool × Int) (G := Value) (F_spec_R8Dominoes_L2 r1 r4 s10) (fun s31 g32 => [(0, x6_0), (1, .int .i64 (-1)), (2, .int .i64 40), (8, g32), (9, .bool s31.2.1), (10, .int .i64 s31.2.2)]) (fun s31 g32 => [.od 50 x6_0 r4.1 x6_1, .ow 170 g32 s31.1, .rd x3_0 r1.1, .pr (Sub v0_ p0 x3_0 r1.1), .bx x3_1 131 [x3_0, .int .i64 s10.1, .int .u64 s10.2.1.val], .ow 2 g11 s10.2.2.1]) (([(⟨([] : (List Int)), false, (-1), (-1)⟩ : Gl32Rest)] : List Gl32Rest), true, 0) (.slice (some ⟨b30, 0, none⟩) 1 1) ⟨rfl, rfl, rfl, rfl, rfl, rfl, trivial⟩ [4, 0, 1, 2, 3, 5] rfl rfl (fun s31 g32 => ?_) (fun s31 g32 => ?_)
          · unfold F_spec_R8Dominoes_L2
            refine J_seq ?_
            refine J_seq ?_
            refine J_region ?_
            refine JL_q (wants_none rfl) rfl (ex_move rfl) ?_
            refine JL_q (wants_none rfl) rfl (ex_move rfl) ?_
            refine JL_q (wants_none rfl) rfl (ex_len_ow 1 Try.underlying171 rfl rfl) ?_
            refine JL_q (wants_none rfl) rfl (ex_lss rfl rfl) ?_
            refine JL_nil ?_
            refine N_then ?_
            refine J_if rfl (fun h33 => ?_) (fun h33 => ?_)
            · refine J_skip ?_
              refine N_then ?_
              refine J_seq ?_
              refine J_block ?_
              refine J_seq ?_
              refine J_seq ?_
              refine J_region ?_
              refine JL_q (wants_none rfl) rfl (ex_move rfl) ?_
              refine JL_q (wants_none rfl) rfl (ex_move rfl) ?_
              refine JL_q (wants_none rfl) rfl (ex_eql rfl rfl) ?_
              refine JL_nil ?_
              refine N_then ?_
              refine J_if rfl (fun h34 => ?_) (fun h34 => ?_)
              · refine J_seq ?_
                refine J_region ?_
                refine JL_q (wants_none rfl) rfl (ex_assign rfl) ?_
                refine JL_q (wants_none rfl) rfl (ex_assign rfl) ?_
                refine JL_nil ?_
                refine N_then ?_
                refine J_ret ?_
                refine N_then_ret ?_
                refine N_block_ret ?_
                refine N_then_ret ?_
                refine N_round_reti ?_
                refine N_then_ret ?_
                refine N_inl2 hK29 rfl (rv_tmp rfl) (rv_tmp rfl) ?_
                refine JL_q (wants_none rfl) rfl (ex_extract rfl rfl) ?_
                refine JL_q (wants_none rfl) rfl (ex_extract rfl rfl) ?_
                refine JL_q (wants_none rfl) rfl (ex_assign rfl) ?_
                refine JL_q (wants_none rfl) rfl (ex_assign rfl) ?_
                refine JL_nil ?_
                refine N_then ?_
                refine J_ret ?_
                refine N_inl2 hK19 rfl (rv_tmp rfl) (rv_tmp rfl) ?_
                refine JL_q (wants_none rfl) rfl (ex_move rfl) ?_
                refine JL_q (wants_none rfl) rfl (ex_extract rfl rfl) ?_
                refine JL_q (wants_none rfl) rfl (ex_extract rfl rfl) ?_
                refine JL_q (wants_none rfl) rfl (ex_assign rfl) ?_
                refine JL_q (wants_none rfl) rfl (ex_assign rfl) ?_
                refine JL_nil ?_
                refine N_then ?_
                refine J_seq ?_
                refine J_seq ?_
                refine J_region ?_
                refine JL_q (wants_none rfl) rfl (ex_move rfl) ?_
                refine JL_q (wants_none rfl) rfl (ex_eql rfl rfl) ?_
                refine JL_q (wants_none rfl) rfl (ex_move rfl) ?_
                refine JL_passed rfl rfl rfl (by decide) ?_
                refine JL_passed rfl rfl rfl (by decide) ?_
                refine JL_q (wants_none rfl) rfl (ex_pick_false rfl (by decide) rfl) ?_
                refine JL_nil ?_
                refine N_then ?_
                refine J_if_false rfl rfl ?_
                refine J_skip ?_
                refine N_then ?_
                refine J_seq ?_
                refine J_region ?_
                refine JL_q (wants_none rfl) rfl (ex_move rfl) ?_
                refine JL_q (wants_none rfl) rfl (ex_move rfl) ?_
                refine JL_q (wants_none rfl) rfl (ex_assign rfl) ?_
                refine JL_q (wants_none rfl) rfl (ex_assign rfl) ?_
                refine JL_nil ?_
                refine N_then ?_
                refine J_ret ?_
                exact N_ret2 rfl (rv_tmp rfl) (rv_tmp rfl) (fun w hh => ⟨(x6_0, x6_1, g11), rfl, hh.sel [0, 5] rfl⟩)
              · refine J_skip ?_
                refine N_then ?_
                refine J_seq ?_
                refine J_region ?_
                refine JL_q (wants_none rfl) rfl (ex_assign rfl) ?_
                refine JL_nil ?_
                refine N_then ?_
                refine J_loop' (S := (List Gl32Rest) × Bool × Int) (G := Value) (F_spec_R8Dominoes_L3 r1 r4 s10 s31) (fun s35 g36 => [(0, x6_0), (1, .int .i64 (-1)), (2, .int .i64 40), (8, g36), (9, .bool s35.2.1), (10, .int .i64 s31.2.2), (11, .int .i64 s35.2.2)]) (fun s35 g36 => [.od 50 x6_0 r4.1 x6_1, .ow 170 g36 s35.1, .rd x3_0 r1.1, .pr (Sub v0_ p0 x3_0 r1.1), .bx x3_1 131 [x3_0, .int .i64 s10.1, .int .u64 s10.2.1.val], .ow 2 g11 s10.2.2.1]) (s31.1, s31.2.1, 0) g32 ⟨rfl, rfl, rfl, rfl, rfl, rfl, rfl, trivial⟩ [0, 1, 2, 3, 4, 5] rfl rfl (fun s35 g36 => ?_) (fun s35 g36 => ?_)
                · unfold F_spec_R8Dominoes_L3
                  refine J_seq ?_
                  refine J_seq ?_
                  refine J_region ?_
                  refine JL_q (wants_none rfl) rfl (ex_move rfl) ?_
                  refine JL_q (wants_none rfl) rfl (ex_move rfl) ?_
                  refine JL_q (wants_none rfl) rfl (ex_od 0 rfl (ex_len_ow 0 Try.underlying38 rfl rfl)) ?_
                  refine JL_q (wants_none rfl) rfl (ex_lss rfl rfl) ?_
                  refine JL_nil ?_
                  refine N_then ?_
                  refine J_if rfl (fun h37 => ?_) (fun h37 => ?_)
                  · refine J_skip ?_
                    refine N_then ?_
                    refine J_seq ?_
                    refine J_block ?_
                    refine J_seq ?_
                    refine J_seq ?_
                    refine J_cut' (S' := Bool) (G' := Unit) (fun s38 _ => [(0, x6_0), (1, .int .i64 (-1)), (2, .int .i64 40), (8, g36), (9, .bool s35.2.1), (10, .int .i64 s31.2.2), (11, .int .i64 s35.2.2), (41, .bool s38)]) (fun s38 _ => [.od 50 x6_0 r4.1 x6_1, .ow 170 g36 s35.1, .rd x3_0 r1.1, .pr (Sub v0_ p0 x3_0 r1.1), .bx x3_1 131 [x3_0, .int .i64 s10.1, .int .u64 s10.2.1.val], .ow 2 g11 s10.2.2.1]) ?_ (fun s38 g39 => ?_)
                    · refine J_region ?_
                      refine JL_q (wants_none rfl) rfl (ex_move rfl) ?_
                      refine JL_q (wants_none rfl) rfl (ex_eql rfl rfl) ?_
                      refine JL_q (wants_none rfl) rfl (ex_move rfl) ?_
                      refine JL_cond (fun h40 => ?_) (fun h40 => ?_)
                      · refine JL_q (wants_some rfl rfl rfl h40) rfl (ex_move rfl) ?_
                        refine JL_q (wants_some rfl rfl rfl h40) rfl (ex_geq rfl rfl) ?_
                        refine JL_q (wants_none rfl) rfl (ex_pick_true rfl h40 rfl) ?_
                        refine JL_q (wants_none rfl) rfl (ex_move rfl) ?_
                        refine JL_passed rfl rfl rfl (by decide) ?_
                        refine JL_passed rfl rfl rfl (by decide) ?_
                        refine JL_passed rfl rfl rfl (by decide) ?_
                        refine JL_q (wants_none rfl) rfl (ex_pick_false rfl (by decide) rfl) ?_
                        refine JL_nil ?_
                        exact N_meet' () ⟨rfl, rfl, rfl, rfl, rfl, rfl, rfl, rfl, trivial⟩ [0, 1, 2, 3, 4, 5] rfl rfl
                      · refine JL_passed rfl rfl rfl h40 ?_
                        refine JL_passed rfl rfl rfl h40 ?_
                        refine JL_q (wants_none rfl) rfl (ex_pick_false rfl h40 rfl) ?_
                        refine JL_q (wants_none rfl) rfl (ex_move rfl) ?_
                        refine JL_passed rfl rfl rfl rfl ?_
                        refine JL_passed rfl rfl rfl rfl ?_
                        refine JL_passed rfl rfl rfl rfl ?_
                        refine JL_q (wants_none rfl) rfl (ex_pick_false rfl rfl rfl) ?_
                        refine JL_nil ?_
                        exact N_meet' () ⟨rfl, rfl, rfl, rfl, rfl, rfl, rfl, rfl, trivial⟩ [0, 1, 2, 3, 4, 5] rfl rfl
                    · refine N_then ?_
                      refine J_if rfl (fun h41 => ?_) (fun h41 => ?_)
                      · refine J_exit ?_
                        refine N_then_exit ?_
                        refine N_block_exit ?_
                        refine N_then ?_
                        refine J_region ?_
                        refine JL_q (wants_none rfl) rfl (ex_move rfl) ?_
                        refine JL_q (wants_none rfl) rfl (ex_add rfl rfl) ?_
                        refine JL_q (wants_none rfl) rfl (ex_assign rfl) ?_
                        refine JL_nil ?_
                        exact N_next' g36 ⟨rfl, rfl, rfl, rfl, rfl, rfl, rfl, trivial⟩ [0, 1, 2, 3, 4, 5] rfl rfl
                      · refine J_skip ?_
                        refine N_then ?_
                        refine J_seq ?_
                        refine J_draw [0, 1, 5] (by kernel_rfl) ?_
                        refine JP_take (i := 0) [2, 3, 4] [0, 1, 5] rfl (by kernel_rfl) (by kernel_rfl) (by kernel_rfl) rfl rfl (wants_none rfl) rfl (ex_move rfl) ?_
                        refine JP_take (i := 1) [2, 3, 4] [0, 1, 5] rfl (by kernel_rfl) (by kernel_rfl) (by kernel_rfl) rfl rfl (wants_none rfl) rfl (ex_move rfl) ?_
                        refine JP_bnd fun y42 hy43 => ?_
                        refine JP_ow_open (v := g36) 1 rfl hy43 ?_; rintro b44 cap45 rfl
                        refine JP_take (i := 2) [2, 3, 4] [0, 1, 5] rfl (by kernel_rfl) (by kernel_rfl) (by kernel_rfl) rfl rfl (wants_none rfl) rfl (ex_index_own Try.underlying171 ti_170 rfl rfl hy43 (by first | rfl | simp)) ?_
                        refine JP_take (i := 3) [2, 3, 4] [0, 1, 5] rfl (by kernel_rfl) (by kernel_rfl) (by kernel_rfl) rfl rfl (wants_none rfl) rfl (ex_move rfl) ?_
                        refine JP_take (i := 4) [2, 3, 4] [0, 1, 5] rfl (by kernel_rfl) (by kernel_rfl) (by kernel_rfl) rfl rfl (wants_none rfl) rfl (ex_move rfl) ?_
                        refine JP_bnd fun y46 hy47 => ?_
                        refine JP_od_open (v := x6_0) 0 rfl hy47 ?_; rintro b48 cap49 rfl
                        refine JP_take (i := 5) [2, 3, 4] [0, 1, 5] rfl (by kernel_rfl) (by kernel_rfl) (by kernel_rfl) rfl rfl (wants_none rfl) rfl (ex_index_own Try.underlying38 ti_50 rfl rfl hy47 (by first | rfl | simp)) ?_
                        refine JP_go [2, 3, 4] [0, 1, 5] rfl rfl rfl (fun w51 h1_52 hp50 => ?_)
                        refine JD_two (i := 6) (j := 10) (by kernel_rfl) ?_ ?_
                        · refine JO_inline h1_52 [0, 1, 5] [4] rfl rfl rfl rfl (wants_none rfl) rfl Try.call141 rfl Try.func141 rfl Try.ntmps141 rfl rfl (fun C54 K_ hK53 => ?_)
                          refine J_seq ?_
                          refine J_region ?_
                          refine JL_st (wants_none rfl) rfl (st_alloc zi_170 rfl) (fun b55 => ?_)
                          refine JL_q (wants_none rfl) rfl (ex_assign rfl) ?_
                          refine JL_nil ?_
                          refine N_then ?_
                          refine J_seq ?_
                          refine J_region ?_
                          refine JL_q (wants_none rfl) rfl (ex_move rfl) ?_
                          refine JL_q (wants_none rfl) rfl (ex_nilCheck rfl) ?_
                          refine JL_q (wants_none rfl) rfl (ex_fieldAddr fi_50_0 rfl rfl) ?_
                          refine JL_st (wants_none rfl) rfl (st_od 2 rfl (st_load_ow_part 2 (opens_sl _) (GDomino.at_Top _) rfl ti_27 rfl rfl hy47) (fun _ => rfl)) (fun v56 => ?_)
                          refine JL_bnd fun r57 hr58 => ?_
                          refine JL_call (wants_none rfl) rfl Try.call120 rfl (Ca_self (fun _ => rfl) fun w hh => c_spec_l00Own _ w (fun _ hk => hk.elim) _ _ (hh.rd0 0 rfl) _ hr58) (fun x59 => ?_)
                          refine JL_q (wants_none rfl) rfl (ex_assign rfl) ?_
                          refine JL_nil ?_
                          refine N_then ?_
                          refine J_seq ?_
                          refine J_region ?_
                          refine JL_q (wants_none rfl) rfl (ex_move rfl) ?_
                          refine JL_q (wants_none rfl) rfl (ex_nilCheck rfl) ?_
                          refine JL_q (wants_none rfl) rfl (ex_fieldAddr fi_50_1 rfl rfl) ?_
                          refine JL_st (wants_none rfl) rfl (st_od 4 rfl (st_load_ow_part 4 (opens_sl _) (GDomino.at_Bottom _) rfl ti_27 rfl rfl hy47) (fun _ => rfl)) (fun v60 => ?_)
                          refine JL_bnd fun r61 hr62 => ?_
                          refine JL_call (wants_none rfl) rfl Try.call120 rfl (Ca_self (fun _ => rfl) fun w hh => c_spec_l00Own _ w (fun _ hk => hk.elim) _ _ (hh.rd0 0 rfl) _ hr62) (fun x63 => ?_)
                          refine JL_q (wants_none rfl) rfl (ex_assign rfl) ?_
                          refine JL_nil ?_
                          refine N_then ?_
                          refine J_seq ?_
                          refine J_cut' (S' := (List Int) × (List Int)) (G' := Value × Value) (fun s64 g65 => [(4, .pointer (some ⟨b55, 0, none⟩)), (6, g65.1), (7, g65.2)]) (fun s64 g65 => [.fz w51 C54, .bx b55 170 [.slice none 0 0, .bool false, .int .i64 0, .int .i64 0], .ow 2 g65.1 s64.1, .ow 2 g65.2 s64.2, .rd x3_0 r1.1, .pr (Sub v0_ p0 x3_0 r1.1), .bx x3_1 131 [x3_0, .int .i64 s10.1, .int .u64 s10.2.1.val], .od 50 (.slice (some ⟨b48, 0, none⟩) r4.1.length cap49) r4.1 x6_1, .ow 2 g11 s10.2.2.1, .ow 170 (.slice (some ⟨b44, 0, none⟩) s35.1.length cap45) s35.1]) ?_ (fun s64 g65 => ?_)
                          · refine J_seq ?_
                            refine J_region ?_
                            refine JL_q (wants_none rfl) rfl (ex_move rfl) ?_
                            refine JL_q (wants_none rfl) rfl (ex_nilCheck rfl) ?_
                            refine JL_q (wants_none rfl) rfl (ex_fieldAddr fi_170_1 rfl rfl) ?_
                            refine JL_st (wants_none rfl) rfl (st_load_ow_part 7 (opens_bool _) (Gl32Rest.at_upper _) rfl ti_4 rfl rfl hy43) (fun _ => ?_)
                            refine JL_nil ?_
                            refine N_then ?_
                            refine J_if rfl (fun h67 => ?_) (fun h67 => ?_)
                            · refine J_draw [] (by kernel_rfl) ?_
                              refine JP_take (i := 0) [0, 1, 2, 3, 4, 5, 6, 7, 8, 9, 10, 11] [] rfl (by kernel_rfl) (by kernel_rfl) (by kernel_rfl) rfl rfl (wants_none rfl) rfl (ex_move rfl) ?_
                              refine JP_take (i := 1) [0, 1, 2, 3, 4, 5, 6, 7, 8, 9, 10, 11] [] rfl (by kernel_rfl) (by kernel_rfl) (by kernel_rfl) rfl rfl (wants_none rfl) rfl (ex_nilCheck rfl) ?_
                              refine JP_take (i := 2) [0, 1, 2, 3, 4, 5, 6, 7, 8, 9, 10, 11] [] rfl (by kernel_rfl) (by kernel_rfl) (by kernel_rfl) rfl rfl (wants_none rfl) rfl (ex_fieldAddr fi_170_0 rfl rfl) ?_
                              refine JP_take (i := 5) [0, 1, 2, 3, 4, 5, 6, 7, 8, 9, 10, 11] [] rfl (by kernel_rfl) (by kernel_rfl) (by kernel_rfl) rfl rfl (wants_none rfl) rfl (ex_move rfl) ?_
                              refine JP_take (i := 6) [0, 1, 2, 3, 4, 5, 6, 7, 8, 9, 10, 11] [] rfl (by kernel_rfl) (by kernel_rfl) (by kernel_rfl) rfl rfl (wants_none rfl) rfl (ex_nilCheck rfl) ?_
                              refine JP_take (i := 7) [0, 1, 2, 3, 4, 5, 6, 7, 8, 9, 10, 11] [] rfl (by kernel_rfl) (by kernel_rfl) (by kernel_rfl) rfl rfl (wants_none rfl) rfl (ex_fieldAddr fi_50_0 rfl rfl) ?_
                              refine JP_go [0, 1, 2, 3, 4, 5, 6, 7, 8, 9, 10, 11] [] rfl rfl rfl (fun w69 h1_70 hp68 => ?_)
                              refine JD_two (i := 3) (j := 8) (by kernel_rfl) ?_ ?_
                              · refine JO_st rfl (wants_none rfl) rfl (st_load_ow_part 7 (opens_sl _) (Gl32Rest.at_word _) rfl ti_27 rfl rfl hy43) (fun _ hk => nomatch hk) (fun v71 => ?_)
                                refine JD_bnd fun r72 hr73 => ?_
                                refine JD_two (i := 4) (j := 8) (by kernel_rfl) ?_ ?_
                                · refine JO_call rfl (wants_none rfl) rfl Try.call120 rfl (Ca_self (fun _ => rfl) fun w hh => c_spec_l00Own _ w (fun _ hk => hk.elim) _ _ (hh.rd0 0 rfl) _ hr73) (fun x74 => ?_)
                                  refine JD_one (i := 8) (by kernel_rfl) ?_
                                  refine JO_st rfl (wants_none rfl) rfl (st_od 8 rfl (st_load_ow_part 8 (opens_sl _) (GDomino.at_Top _) rfl ti_27 rfl rfl hy47) (fun _ => rfl)) (fun _ hk => nomatch hk) (fun v75 => ?_)
                                  refine JD_bnd fun z76 hz77 => ?_
                                  refine JD_one (i := 9) (by kernel_rfl) ?_
                                  refine JO_st2 1 [] [0, 1, 2, 3, 4, 5, 6, 7, 8, 9, 10, 11] [3, 4, 5, 6, 7, 8, 9, 10, 11, 12, 13, 14] rfl rfl rfl rfl rfl rfl (wants_none rfl) rfl (st_append 1 Try.underlying27 ti_2 zi_2 rfl bi_2 rfl rfl rfl rfl (fun w hh => hh.src_rd 0 rfl) hz77) (fun _ hk => hk) (fun v78 => ?_)
                                  refine JD_take (i := 10) hp68 rfl (by kernel_rfl) (by kernel_rfl) (by kernel_rfl) (wants_none rfl) rfl (ex_assign rfl) ?_
                                  refine JD_done (by kernel_rfl) ?_
                                  exact N_meet' (v78, x63) ⟨rfl, rfl, rfl, trivial⟩ [8, 7, 1, 3, 11, 12, 13, 9, 14, 10] rfl rfl
                                · refine JO_st rfl (wants_none rfl) rfl (st_od 7 rfl (st_load_ow_part 7 (opens_sl _) (GDomino.at_Top _) rfl ti_27 rfl rfl hy47) (fun _ => rfl)) (fun _ hk => nomatch hk) (fun v79 => ?_)
                                  refine JD_one (i := 4) (by kernel_rfl) ?_
                                  refine JO_call rfl (wants_none rfl) rfl Try.call120 rfl (Ca_self (fun _ => rfl) fun w hh => c_spec_l00Own _ w (fun _ hk => hk.elim) _ _ (hh.rd0 1 rfl) _ hr73) (fun x80 => ?_)
                                  refine JD_bnd fun z81 hz82 => ?_
                                  refine JD_one (i := 9) (by kernel_rfl) ?_
                                  refine JO_st2 0 [] [0, 1, 2, 3, 4, 5, 6, 7, 8, 9, 10, 11] [3, 4, 5, 6, 7, 8, 9, 10, 11, 12, 13, 14] rfl rfl rfl rfl rfl rfl (wants_none rfl) rfl (st_append 0 Try.underlying27 ti_2 zi_2 rfl bi_2 rfl rfl rfl rfl (fun w hh => hh.src_rd 1 rfl) hz82) (fun _ hk => hk) (fun v83 => ?_)
                                  refine JD_take (i := 10) hp68 rfl (by kernel_rfl) (by kernel_rfl) (by kernel_rfl) (wants_none rfl) rfl (ex_assign rfl) ?_
                                  refine JD_done (by kernel_rfl) ?_
                                  exact N_meet' (v83, x63) ⟨rfl, rfl, rfl, trivial⟩ [8, 7, 0, 3, 11, 12, 13, 9, 14, 10] rfl rfl
                              · refine JO_st rfl (wants_none rfl) rfl (st_od 6 rfl (st_load_ow_part 6 (opens_sl _) (GDomino.at_Top _) rfl ti_27 rfl rfl hy47) (fun _ => rfl)) (fun _ hk => nomatch hk) (fun v84 => ?_)
                                refine JD_one (i := 3) (by kernel_rfl) ?_
                                refine JO_st rfl (wants_none rfl) rfl (st_load_ow_part 8 (opens_sl _) (Gl32Rest.at_word _) rfl ti_27 rfl rfl hy43) (fun _ hk => nomatch hk) (fun v85 => ?_)
                                refine JD_bnd fun r86 hr87 => ?_
                                refine JD_one (i := 4) (by kernel_rfl) ?_
                                refine JO_call rfl (wants_none rfl) rfl Try.call120 rfl (Ca_self (fun _ => rfl) fun w hh => c_spec_l00Own _ w (fun _ hk => hk.elim) _ _ (hh.rd0 0 rfl) _ hr87) (fun x88 => ?_)
                                refine JD_bnd fun z89 hz90 => ?_
                                refine JD_one (i := 9) (by kernel_rfl) ?_
                                refine JO_st2 0 [] [0, 1, 2, 3, 4, 5, 6, 7, 8, 9, 10, 11] [3, 4, 5, 6, 7, 8, 9, 10, 11, 12, 13, 14] rfl rfl rfl rfl rfl rfl (wants_none rfl) rfl (st_append 0 Try.underlying27 ti_2 zi_2 rfl bi_2 rfl rfl rfl rfl (fun w hh => hh.src_rd 2 rfl) hz90) (fun _ hk => hk) (fun v91 => ?_)
                                refine JD_take (i := 10) hp68 rfl (by kernel_rfl) (by kernel_rfl) (by kernel_rfl) (wants_none rfl) rfl (ex_assign rfl) ?_
                                refine JD_done (by kernel_rfl) ?_
                                exact N_meet' (v91, x63) ⟨rfl, rfl, rfl, trivial⟩ [8, 7, 0, 3, 11, 12, 13, 9, 14, 10] rfl rfl
                            · refine J_draw [] (by kernel_rfl) ?_
                              refine JP_take (i := 0) [0, 1, 2, 3, 4, 5, 6, 7, 8, 9, 10, 11] [] rfl (by kernel_rfl) (by kernel_rfl) (by kernel_rfl) rfl rfl (wants_none rfl) rfl (ex_move rfl) ?_
                              refine JP_take (i := 1) [0, 1, 2, 3, 4, 5, 6, 7, 8, 9, 10, 11] [] rfl (by kernel_rfl) (by kernel_rfl) (by kernel_rfl) rfl rfl (wants_none rfl) rfl (ex_nilCheck rfl) ?_
                              refine JP_take (i := 2) [0, 1, 2, 3, 4, 5, 6, 7, 8, 9, 10, 11] [] rfl (by kernel_rfl) (by kernel_rfl) (by kernel_rfl) rfl rfl (wants_none rfl) rfl (ex_fieldAddr fi_170_0 rfl rfl) ?_
                              refine JP_take (i := 5) [0, 1, 2, 3, 4, 5, 6, 7, 8, 9, 10, 11] [] rfl (by kernel_rfl) (by kernel_rfl) (by kernel_rfl) rfl rfl (wants_none rfl) rfl (ex_move rfl) ?_
                              refine JP_take (i := 6) [0, 1, 2, 3, 4, 5, 6, 7, 8, 9, 10, 11] [] rfl (by kernel_rfl) (by kernel_rfl) (by kernel_rfl) rfl rfl (wants_none rfl) rfl (ex_nilCheck rfl) ?_
                              refine JP_take (i := 7) [0, 1, 2, 3, 4, 5, 6, 7, 8, 9, 10, 11] [] rfl (by kernel_rfl) (by kernel_rfl) (by kernel_rfl) rfl rfl (wants_none rfl) rfl (ex_fieldAddr fi_50_1 rfl rfl) ?_
                              refine JP_go [0, 1, 2, 3, 4, 5, 6, 7, 8, 9, 10, 11] [] rfl rfl rfl (fun w93 h1_94 hp92 => ?_)
                              refine JD_two (i := 3) (j := 8) (by kernel_rfl) ?_ ?_
                              · refine JO_st rfl (wants_none rfl) rfl (st_load_ow_part 7 (opens_sl _) (Gl32Rest.at_word _) rfl ti_27 rfl rfl hy43) (fun _ hk => nomatch hk) (fun v95 => ?_)
                                refine JD_bnd fun r96 hr97 => ?_
                                refine JD_two (i := 4) (j := 8) (by kernel_rfl) ?_ ?_
                                · refine JO_call rfl (wants_none rfl) rfl Try.call120 rfl (Ca_self (fun _ => rfl) fun w hh => c_spec_l00Own _ w (fun _ hk => hk.elim) _ _ (hh.rd0 0 rfl) _ hr97) (fun x98 => ?_)
                                  refine JD_one (i := 8) (by kernel_rfl) ?_
                                  refine JO_st rfl (wants_none rfl) rfl (st_od 8 rfl (st_load_ow_part 8 (opens_sl _) (GDomino.at_Bottom _) rfl ti_27 rfl rfl hy47) (fun _ => rfl)) (fun _ hk => nomatch hk) (fun v99 => ?_)
                                  refine JD_bnd fun z100 hz101 => ?_
                                  refine JD_one (i := 9) (by kernel_rfl) ?_
                                  refine JO_st2 1 [] [0, 1, 2, 3, 4, 5, 6, 7, 8, 9, 10, 11] [3, 4, 5, 6, 7, 8, 9, 10, 11, 12, 13, 14] rfl rfl rfl rfl rfl rfl (wants_none rfl) rfl (st_append 1 Try.underlying27 ti_2 zi_2 rfl bi_2 rfl rfl rfl rfl (fun w hh => hh.src_rd 0 rfl) hz101) (fun _ hk => hk) (fun v102 => ?_)
                                  refine JD_take (i := 10) hp92 rfl (by kernel_rfl) (by kernel_rfl) (by kernel_rfl) (wants_none rfl) rfl (ex_assign rfl) ?_
                                  refine JD_done (by kernel_rfl) ?_
                                  exact N_meet' (x59, v102) ⟨rfl, rfl, rfl, trivial⟩ [8, 7, 5, 1, 11, 12, 13, 9, 14, 10] rfl rfl
                                · refine JO_st rfl (wants_none rfl) rfl (st_od 7 rfl (st_load_ow_part 7 (opens_sl _) (GDomino.at_Bottom _) rfl ti_27 rfl rfl hy47) (fun _ => rfl)) (fun _ hk => nomatch hk) (fun v103 => ?_)
                                  refine JD_one (i := 4) (by kernel_rfl) ?_
                                  refine JO_call rfl (wants_none rfl) rfl Try.call120 rfl (Ca_self (fun _ => rfl) fun w hh => c_spec_l00Own _ w (fun _ hk => hk.elim) _ _ (hh.rd0 1 rfl) _ hr97) (fun x104 => ?_)
                                  refine JD_bnd fun z105 hz106 => ?_
                                  refine JD_one (i := 9) (by kernel_rfl) ?_
                                  refine JO_st2 0 [] [0, 1, 2, 3, 4, 5, 6, 7, 8, 9, 10, 11] [3, 4, 5, 6, 7, 8, 9, 10, 11, 12, 13, 14] rfl rfl rfl rfl rfl rfl (wants_none rfl) rfl (st_append 0 Try.underlying27 ti_2 zi_2 rfl bi_2 rfl rfl rfl rfl (fun w hh => hh.src_rd 1 rfl) hz106) (fun _ hk => hk) (fun v107 => ?_)
                                  refine JD_take (i := 10) hp92 rfl (by kernel_rfl) (by kernel_rfl) (by kernel_rfl) (wants_none rfl) rfl (ex_assign rfl) ?_
                                  refine JD_done (by kernel_rfl) ?_
                                  exact N_meet' (x59, v107) ⟨rfl, rfl, rfl, trivial⟩ [8, 7, 5, 0, 11, 12, 13, 9, 14, 10] rfl rfl
                              · refine JO_st rfl (wants_none rfl) rfl (st_od 6 rfl (st_load_ow_part 6 (opens_sl _) (GDomino.at_Bottom _) rfl ti_27 rfl rfl hy47) (fun _ => rfl)) (fun _ hk => nomatch hk) (fun v108 => ?_)
                                refine JD_one (i := 3) (by kernel_rfl) ?_
                                refine JO_st rfl (wants_none rfl) rfl (st_load_ow_part 8 (opens_sl _) (Gl32Rest.at_word _) rfl ti_27 rfl rfl hy43) (fun _ hk => nomatch hk) (fun v109 => ?_)
                                refine JD_bnd fun r110 hr111 => ?_
                                refine JD_one (i := 4) (by kernel_rfl) ?_
                                refine JO_call rfl (wants_none rfl) rfl Try.call120 rfl (Ca_self (fun _ => rfl) fun w hh => c_spec_l00Own _ w (fun _ hk => hk.elim) _ _ (hh.rd0 0 rfl) _ hr111) (fun x112 => ?_)
                                refine JD_bnd fun z113 hz114 => ?_
                                refine JD_one (i := 9) (by kernel_rfl) ?_
                                refine JO_st2 0 [] [0, 1, 2, 3, 4, 5, 6, 7, 8, 9, 10, 11] [3, 4, 5, 6, 7, 8, 9, 10, 11, 12, 13, 14] rfl rfl rfl rfl rfl rfl (wants_none rfl) rfl (st_append 0 Try.underlying27 ti_2 zi_2 rfl bi_2 rfl rfl rfl rfl (fun w hh => hh.src_rd 2 rfl) hz114) (fun _ hk => hk) (fun v115 => ?_)
                                refine JD_take (i := 10) hp92 rfl (by kernel_rfl) (by kernel_rfl) (by kernel_rfl) (wants_none rfl) rfl (ex_assign rfl) ?_
                                refine JD_done (by kernel_rfl) ?_
                                exact N_meet' (x59, v115) ⟨rfl, rfl, rfl, trivial⟩ [8, 7, 5, 0, 11, 12, 13, 9, 14, 10] rfl rfl
                          · obtain ⟨g65_0, g65_1⟩ := g65
                            refine N_then ?_
                            refine J_seq ?_
                            refine J_region ?_
                            refine JL_q (wants_none rfl) rfl (ex_move rfl) ?_
                            refine JL_q (wants_none rfl) rfl (ex_len_ow 2 Try.underlying27 rfl rfl) ?_
                            refine JL_q (wants_none rfl) rfl (ex_move rfl) ?_
                            refine JL_q (wants_none rfl) rfl (ex_len_ow 3 Try.underlying27 rfl rfl) ?_
                            refine JL_bnd fun r116 hr117 => ?_
                            refine JL_call (wants_none rfl) rfl Try.call161 rfl (Ca_of0 fun w hh => c_spec_l00Min _ w (fun _ hk => hk.elim) _ _ _ hr117) (fun _ => ?_)
                            refine JL_q (wants_none rfl) rfl (ex_assign rfl) ?_
                            refine JL_nil ?_
                            refine N_then ?_
                            refine J_seq ?_
                            refine J_seq ?_
                            refine J_draw [] (by kernel_rfl) ?_
                            refine JP_take (i := 0) [0, 1, 2, 3, 4, 5, 6, 7, 8, 9] [] rfl (by kernel_rfl) (by kernel_rfl) (by kernel_rfl) rfl rfl (wants_none rfl) rfl (ex_move rfl) ?_
                            refine JP_take (i := 1) [0, 1, 2, 3, 4, 5, 6, 7, 8, 9] [] rfl (by kernel_rfl) (by kernel_rfl) (by kernel_rfl) rfl rfl (wants_none rfl) rfl (ex_move rfl) ?_
                            refine JP_bnd fun z118 hz119 => ?_
                            refine JP_ctx (fun w hh => hh.tokf 2 rfl rfl) ?_
                            refine JP_sq (i := 2) [] rfl (by kernel_rfl) (by kernel_rfl) (by kernel_rfl) rfl (wants_none rfl) rfl (sq_slice 3 Try.underlying27 ti_2 rfl rfl rfl rfl hz119) (fun v120 => ?_)
                            refine JP_take (i := 3) [0, 1, 2, 3, 4, 5, 6, 7, 8, 9, 10, 11] [] rfl (by kernel_rfl) (by kernel_rfl) (by kernel_rfl) rfl rfl (wants_none rfl) rfl (ex_move rfl) ?_
                            refine JP_take (i := 4) [0, 1, 2, 3, 4, 5, 6, 7, 8, 9, 10, 11] [] rfl (by kernel_rfl) (by kernel_rfl) (by kernel_rfl) rfl rfl (wants_none rfl) rfl (ex_move rfl) ?_
                            refine JP_bnd fun z121 hz122 => ?_
                            refine JP_ctx (fun w hh => hh.tokf 5 rfl rfl) ?_
                            refine JP_sq (i := 5) [] rfl (by kernel_rfl) (by kernel_rfl) (by kernel_rfl) rfl (wants_none rfl) rfl (sq_slice 6 Try.underlying27 ti_2 rfl rfl rfl rfl hz122) (fun v123 => ?_)
                            refine JP_go [0, 1, 2, 3, 4, 5, 6, 7, 8, 9, 10, 11, 12, 13] [] rfl rfl rfl (fun w125 h1_126 hp124 => ?_)
                            refine JD_bnd fun r127 hr128 => ?_
                            refine JD_one (i := 6) (by kernel_rfl) ?_
                            refine JO_call rfl (wants_none rfl) rfl Try.call162 rfl (Ca_of0 fun w hh => c_spec_l00Same _ w (fun _ hk => hk.elim) _ _ (hh.rd0 2 rfl) _ _ (hh.rd0 0 rfl) _ hr128) (fun _ => ?_)
                            refine JD_take (i := 7) hp124 rfl (by kernel_rfl) (by kernel_rfl) (by kernel_rfl) (wants_none rfl) rfl (ex_not rfl) ?_
                            refine JD_done (by kernel_rfl) ?_
                            refine N_then ?_
                            refine J_if rfl (fun h129 => ?_) (fun h129 => ?_)
                            · refine J_seq ?_
                              refine J_region ?_
                              refine JL_q (wants_none rfl) rfl (ex_build si_170 rfl .nil (fun w hh => trivial)) ?_
                              refine JL_sk (wants_none rfl) (sk_store_bx' 5 ti_170 rfl rfl (fun w hh => (cv_aggs ⟨cv_slice, cv_bool, cv_int, cv_int, trivial⟩)) rfl rfl rfl rfl) ?_
                              refine JL_q (wants_none rfl) rfl (ex_assign rfl) ?_
                              refine JL_nil ?_
                              refine N_then ?_
                              refine J_ret ?_
                              refine N_then_ret ?_
                              refine N_inlD2 hK53 rfl (rv_cell 5 rfl rfl ti_170 rfl) (rv_tmp rfl) 4 [10] rfl rfl ?_
                              refine JD_take (i := 7) hp50 rfl (by kernel_rfl) (by kernel_rfl) (by kernel_rfl) (wants_none rfl) rfl (ex_move rfl) ?_
                              refine JD_take (i := 8) hp50 rfl (by kernel_rfl) (by kernel_rfl) (by kernel_rfl) (wants_none rfl) rfl (ex_extract rfl rfl) ?_
                              refine JD_take (i := 9) hp50 rfl (by kernel_rfl) (by kernel_rfl) (by kernel_rfl) (wants_none rfl) rfl (ex_extract rfl rfl) ?_
                              refine JD_one (i := 10) (by kernel_rfl) ?_
                              refine JO_st rfl (wants_none rfl) rfl (st_alloc zi_170 rfl) (fun _ hk => nomatch hk) (fun b130 => ?_)
                              refine JD_one (i := 11) (by kernel_rfl) ?_
                              refine JO_sk2 0 [0, 1, 5] [2, 3, 4] [9, 10, 11] rfl rfl rfl rfl rfl rfl (wants_none rfl) (sk_store_bx' 0 ti_170 rfl rfl (fun w hh => (cv_aggs ⟨cv_slice, cv_bool, cv_int, cv_int, trivial⟩)) rfl rfl rfl rfl) (fun _ hk => hk) ?_
                              refine JD_take (i := 12) hp50 rfl (by kernel_rfl) (by kernel_rfl) (by kernel_rfl) (wants_none rfl) rfl (ex_assign rfl) ?_
                              refine JD_done (by kernel_rfl) ?_
                              refine N_then ?_
                              refine J_seq ?_
                              refine J_seq ?_
                              refine J_region ?_
                              refine JL_q (wants_none rfl) rfl (ex_move rfl) ?_
                              refine JL_q (wants_none rfl) rfl (ex_not rfl) ?_
                              refine JL_nil ?_
                              refine N_then ?_
                              refine J_if_true rfl rfl ?_
                              refine J_exit ?_
                              refine N_then_exit ?_
                              refine N_block_exit ?_
                              refine N_then ?_
                              refine J_region ?_
                              refine JL_q (wants_none rfl) rfl (ex_move rfl) ?_
                              refine JL_q (wants_none rfl) rfl (ex_add rfl rfl) ?_
                              refine JL_q (wants_none rfl) rfl (ex_assign rfl) ?_
                              refine JL_nil ?_
                              exact N_next' (.slice (some ⟨b44, 0, none⟩) s35.1.length cap45) ⟨rfl, rfl, rfl, rfl, rfl, rfl, rfl, trivial⟩ [12, 14, 9, 10, 11, 13] rfl rfl
                            · refine J_skip ?_
                              refine N_then ?_
                              refine J_seq ?_
                              refine J_seq ?_
                              refine J_region ?_
                              refine JL_q (wants_none rfl) rfl (ex_move rfl) ?_
                              refine JL_q (wants_none rfl) rfl (ex_len_rd 6 Try.underlying27 rfl rfl) ?_
                              refine JL_q (wants_none rfl) rfl (ex_move rfl) ?_
                              refine JL_q (wants_none rfl) rfl (ex_gtr rfl rfl) ?_
                              refine JL_nil ?_
                              refine N_then ?_
                              refine J_if rfl (fun h131 => ?_) (fun h131 => ?_)
                              · refine J_seq ?_
                                refine J_region ?_
                                refine JL_q (wants_none rfl) rfl (ex_move rfl) ?_
                                refine JL_q (wants_none rfl) rfl (ex_move rfl) ?_
                                refine JL_bnd fun z132 hz133 => ?_
                                refine JL_st (wants_none rfl) rfl (st_slice 6 Try.underlying27 ti_2 rfl rfl rfl rfl hz133) (fun v134 => ?_)
                                refine JL_q (wants_none rfl) rfl (ex_build si_170 rfl (.cons fi_170_0 rfl rfl (.cons fi_170_1 rfl rfl .nil)) (fun w hh => ⟨(hh.cv 0 rfl), cv_bool, trivial⟩)) ?_
                                refine JL_sk (wants_none rfl) (sk_store_bx' 6 ti_170 rfl rfl (fun w hh => (cv_aggs ⟨(hh.cv 0 rfl), cv_bool, cv_int, cv_int, trivial⟩)) rfl rfl rfl rfl) ?_
                                refine JL_q (wants_none rfl) rfl (ex_assign rfl) ?_
                                refine JL_nil ?_
                                refine N_then ?_
                                refine J_ret ?_
                                refine N_then_ret ?_
                                refine N_inlD2 hK53 rfl (rv_cell 6 rfl rfl ti_170 rfl) (rv_tmp rfl) 5 [11] rfl rfl ?_
                                refine JD_take (i := 7) hp50 rfl (by kernel_rfl) (by kernel_rfl) (by kernel_rfl) (wants_none rfl) rfl (ex_move rfl) ?_
                                refine JD_take (i := 8) hp50 rfl (by kernel_rfl) (by kernel_rfl) (by kernel_rfl) (wants_none rfl) rfl (ex_extract rfl rfl) ?_
                                refine JD_take (i := 9) hp50 rfl (by kernel_rfl) (by kernel_rfl) (by kernel_rfl) (wants_none rfl) rfl (ex_extract rfl rfl) ?_
                                refine JD_one (i := 10) (by kernel_rfl) ?_
                                refine JO_st rfl (wants_none rfl) rfl (st_alloc zi_170 rfl) (fun _ hk => nomatch hk) (fun b135 => ?_)
                                refine JD_one (i := 11) (by kernel_rfl) ?_
                                refine JO_sk2 0 [0, 1, 5] [2, 3, 4] [10, 11, 12] rfl rfl rfl rfl rfl rfl (wants_none rfl) (sk_store_bx' 0 ti_170 rfl rfl (fun w hh => (cv_aggs ⟨(hh.cv 1 rfl), cv_bool, cv_int, cv_int, trivial⟩)) rfl rfl rfl rfl) (fun _ hk => hk) ?_
                                refine JD_take (i := 12) hp50 rfl (by kernel_rfl) (by kernel_rfl) (by kernel_rfl) (wants_none rfl) rfl (ex_assign rfl) ?_
                                refine JD_done (by kernel_rfl) ?_
                                refine N_then ?_
                                refine J_seq ?_
                                refine J_seq ?_
                                refine J_region ?_
                                refine JL_q (wants_none rfl) rfl (ex_move rfl) ?_
                                refine JL_q (wants_none rfl) rfl (ex_not rfl) ?_
                                refine JL_nil ?_
                                refine N_then ?_
                                refine J_if_false rfl rfl ?_
                                refine J_skip ?_
                                refine N_then ?_
                                refine J_seq ?_
                                refine J_region ?_
                                refine JL_q (wants_none rfl) rfl (ex_move rfl) ?_
                                refine JL_q (wants_none rfl) rfl (ex_fieldAddr fi_170_2 rfl rfl) ?_
                                refine JL_sk (wants_none rfl) (sk_store_bx' 0 ti_3 rfl rfl (fun w hh => cv_int) rfl rfl rfl rfl) ?_
                                refine JL_nil ?_
                                refine N_then ?_
                                refine J_seq ?_
                                refine J_region ?_
                                refine JL_q (wants_none rfl) rfl (ex_move rfl) ?_
                                refine JL_q (wants_none rfl) rfl (ex_fieldAddr fi_170_3 rfl rfl) ?_
                                refine JL_sk (wants_none rfl) (sk_store_bx' 0 ti_2 rfl rfl (fun w hh => cv_int) rfl rfl rfl rfl) ?_
                                refine JL_nil ?_
                                refine N_then ?_
                                refine J_seq ?_
                                refine J_seq ?_
                                refine J_region ?_
                                refine JL_q (wants_none rfl) rfl (ex_fieldAddr fi_170_0 rfl rfl) ?_
                                refine JL_q (wants_none rfl) rfl (ex_load_bx 0 ti_27 rfl rfl rfl) ?_
                                refine JL_q (wants_none rfl) rfl (ex_len_rd 1 Try.underlying27 rfl rfl) ?_
                                refine JL_q (wants_none rfl) rfl (ex_eql rfl rfl) ?_
                                refine JL_nil ?_
                                refine N_then ?_
                                refine J_if rfl (fun h136 => ?_) (fun h136 => ?_)
                                · refine J_seq ?_
                                  refine J_region ?_
                                  refine JL_q (wants_none rfl) rfl (ex_move rfl) ?_
                                  refine JL_bnd fun r137 hr138 => ?_
                                  refine JL_call (wants_none rfl) rfl Try.call142 rfl (Ca_self (fun _ => rfl) fun w hh => c_spec_l32Back _ w (fun _ hk => hk.elim) _ _ (hh.ow0 15 rfl) _ _ (hh.bx_pa 0 rfl (Gl32Rest.rdmk (hh.rd0 1 rfl) (Rd.mk_bool _ _ _) (Rd.mk_int _ _ _) (Rd.mk_int _ _ _)) rfl) _ hr138) (fun x139 => ?_)
                                  refine JL_q (wants_none rfl) rfl (ex_extract rfl rfl) ?_
                                  refine JL_q (wants_none rfl) rfl (ex_extract rfl rfl) ?_
                                  refine JL_q (wants_none rfl) rfl (ex_assign rfl) ?_
                                  refine JL_q (wants_none rfl) rfl (ex_assign rfl) ?_
                                  refine JL_nil ?_
                                  refine N_then ?_
                                  refine J_ret ?_
                                  refine N_then_ret ?_
                                  refine N_block_ret ?_
                                  refine N_then_ret ?_
                                  refine N_round_ret ?_
                                  refine N_block_ret ?_
                                  refine N_then_ret ?_
                                  refine N_round_reti ?_
                                  refine N_then_ret ?_
                                  refine N_inl2 hK29 rfl (rv_tmp rfl) (rv_tmp rfl) ?_
                                  refine JL_q (wants_none rfl) rfl (ex_extract rfl rfl) ?_
                                  refine JL_q (wants_none rfl) rfl (ex_extract rfl rfl) ?_
                                  refine JL_q (wants_none rfl) rfl (ex_assign rfl) ?_
                                  refine JL_q (wants_none rfl) rfl (ex_assign rfl) ?_
                                  refine JL_nil ?_
                                  refine N_then ?_
                                  refine J_ret ?_
                                  refine N_inl2 hK19 rfl (rv_tmp rfl) (rv_tmp rfl) ?_
                                  refine JL_q (wants_none rfl) rfl (ex_move rfl) ?_
                                  refine JL_q (wants_none rfl) rfl (ex_extract rfl rfl) ?_
                                  refine JL_q (wants_none rfl) rfl (ex_extract rfl rfl) ?_
                                  refine JL_q (wants_none rfl) rfl (ex_assign rfl) ?_
                                  refine JL_q (wants_none rfl) rfl (ex_assign rfl) ?_
                                  refine JL_nil ?_
                                  refine N_then ?_
                                  refine J_seq ?_
                                  refine J_seq ?_
                                  refine J_region ?_
                                  refine JL_q (wants_none rfl) rfl (ex_move rfl) ?_
                                  refine JL_q (wants_none rfl) rfl (ex_eql rfl rfl) ?_
                                  refine JL_q (wants_none rfl) rfl (ex_move rfl) ?_
                                  refine JL_cond (fun h140 => ?_) (fun h140 => ?_)
                                  · refine JL_q (wants_some rfl rfl rfl h140) rfl (ex_move rfl) ?_
                                    refine JL_bnd fun r141 hr142 => ?_
                                    refine JL_callT (wants_some rfl rfl rfl h140) rfl Try.call38 rfl (CaT_of [13] [0, 1, 2, 3, 4, 5, 6, 7, 8, 9, 10, 11, 12, 14, 15, 16] rfl rfl (fun _ => rfl) fun w hh => c_spec_l00Src_one w x3_1 (⟨r1.1, s10.1, s10.2.1⟩ : Gl00Src) x3_0 _ rfl (hh.handed [13] rfl rfl rfl rfl) (hh.apart [13] rfl (hh.rd 11 rfl)) _ _ hr142) (fun _ => ?_)
                                    refine JL_q (wants_none rfl) rfl (ex_pick_true rfl h140 rfl) ?_
                                    refine JL_nil ?_
                                    refine N_then ?_
                                    refine J_if rfl (fun h143 => ?_) (fun h143 => ?_)
                                    · refine J_region ?_
                                      refine JL_q (wants_none rfl) rfl (ex_move rfl) ?_
                                      refine JL_q (wants_none rfl) rfl (ex_assign rfl) ?_
                                      refine JL_nil ?_
                                      refine N_then ?_
                                      refine J_seq ?_
                                      refine J_region ?_
                                      refine JL_q (wants_none rfl) rfl (ex_move rfl) ?_
                                      refine JL_q (wants_none rfl) rfl (ex_move rfl) ?_
                                      refine JL_q (wants_none rfl) rfl (ex_assign rfl) ?_
                                      refine JL_q (wants_none rfl) rfl (ex_assign rfl) ?_
                                      refine JL_nil ?_
                                      refine N_then ?_
                                      refine J_ret ?_
                                      exact N_ret2 rfl (rv_tmp rfl) (rv_tmp rfl) (fun w hh => ⟨((.slice (some ⟨b48, 0, none⟩) r4.1.length cap49), x6_1, x139), rfl, hh.sel [14, 1] rfl⟩)
                                    · refine J_skip ?_
                                      refine N_then ?_
                                      refine J_seq ?_
                                      refine J_region ?_
                                      refine JL_q (wants_none rfl) rfl (ex_move rfl) ?_
                                      refine JL_q (wants_none rfl) rfl (ex_move rfl) ?_
                                      refine JL_q (wants_none rfl) rfl (ex_assign rfl) ?_
                                      refine JL_q (wants_none rfl) rfl (ex_assign rfl) ?_
                                      refine JL_nil ?_
                                      refine N_then ?_
                                      refine J_ret ?_
                                      exact N_ret2 rfl (rv_tmp rfl) (rv_tmp rfl) (fun w hh => ⟨((.slice (some ⟨b48, 0, none⟩) r4.1.length cap49), x6_1, g11), rfl, hh.sel [14, 15] rfl⟩)
                                  · refine JL_passed rfl rfl rfl h140 ?_
                                    refine JL_passed rfl rfl rfl h140 ?_
                                    refine JL_q (wants_none rfl) rfl (ex_pick_false rfl h140 rfl) ?_
                                    refine JL_nil ?_
                                    refine N_then ?_
                                    refine J_if_false rfl rfl ?_
                                    refine J_skip ?_
                                    refine N_then ?_
                                    refine J_seq ?_
                                    refine J_region ?_
                                    refine JL_q (wants_none rfl) rfl (ex_move rfl) ?_
                                    refine JL_q (wants_none rfl) rfl (ex_move rfl) ?_
                                    refine JL_q (wants_none rfl) rfl (ex_assign rfl) ?_
                                    refine JL_q (wants_none rfl) rfl (ex_assign rfl) ?_
                                    refine JL_nil ?_
                                    refine N_then ?_
                                    refine J_ret ?_
                                    exact N_ret2 rfl (rv_tmp rfl) (rv_tmp rfl) (fun w hh => ⟨((.slice (some ⟨b48, 0, none⟩) r4.1.length cap49), x6_1, g11), rfl, hh.sel [14, 15] rfl⟩)
                                · refine J_skip ?_
                                  refine N_then ?_
                                  refine J_seq ?_
                                  refine J_seq ?_
                                  refine J_region ?_
                                  refine JL_q (wants_none rfl) rfl (ex_fieldAddr fi_170_0 rfl rfl) ?_
                                  refine JL_q (wants_none rfl) rfl (ex_load_bx 0 ti_27 rfl rfl rfl) ?_
                                  refine JL_q (wants_none rfl) rfl (ex_len_rd 1 Try.underlying27 rfl rfl) ?_
                                  refine JL_q (wants_none rfl) rfl (ex_gtr rfl rfl) ?_
                                  refine JL_nil ?_
                                  refine N_then ?_
                                  refine J_if rfl (fun h144 => ?_) (fun h144 => ?_)
                                  · refine J_seq ?_
                                    refine J_region ?_
                                    refine JL_q (wants_none rfl) rfl (ex_assign rfl) ?_
                                    refine JL_nil ?_
                                    refine N_then ?_
                                    refine J_exit ?_
                                    refine N_then_exit ?_
                                    refine N_block_exit ?_
                                    refine N_then ?_
                                    refine J_region ?_
                                    refine JL_q (wants_none rfl) rfl (ex_move rfl) ?_
                                    refine JL_q (wants_none rfl) rfl (ex_add rfl rfl) ?_
                                    refine JL_q (wants_none rfl) rfl (ex_assign rfl) ?_
                                    refine JL_nil ?_
                                    exact N_next' (.slice (some ⟨b44, 0, none⟩) s35.1.length cap45) ⟨rfl, rfl, rfl, rfl, rfl, rfl, rfl, trivial⟩ [13, 15, 10, 11, 12, 14] rfl rfl
                                  · refine J_skip ?_
                                    refine N_then ?_
                                    refine J_seq ?_
                                    refine J_seq ?_
                                    refine J_region ?_
                                    refine JL_q (wants_none rfl) rfl (ex_move rfl) ?_
                                    refine JL_bnd fun r145 hr146 => ?_
                                    refine JL_call (wants_none rfl) rfl Try.call143 rfl (Ca_of0 fun w hh => c_spec_l32Known _ w (fun _ hk => hk.elim) _ _ (hh.ow0 15 rfl) _ _ (hh.bx_pa 0 rfl (Gl32Rest.rdmk (hh.rd0 1 rfl) (Rd.mk_bool _ _ _) (Rd.mk_int _ _ _) (Rd.mk_int _ _ _)) rfl) _ hr146) (fun _ => ?_)
                                    refine JL_nil ?_
                                    refine N_then ?_
                                    refine J_if rfl (fun h147 => ?_) (fun h147 => ?_)
                                    · refine J_exit ?_
                                      refine N_then_exit ?_
                                      refine N_block_exit ?_
                                      refine N_then ?_
                                      refine J_region ?_
                                      refine JL_q (wants_none rfl) rfl (ex_move rfl) ?_
                                      refine JL_q (wants_none rfl) rfl (ex_add rfl rfl) ?_
                                      refine JL_q (wants_none rfl) rfl (ex_assign rfl) ?_
                                      refine JL_nil ?_
                                      exact N_next' (.slice (some ⟨b44, 0, none⟩) s35.1.length cap45) ⟨rfl, rfl, rfl, rfl, rfl, rfl, rfl, trivial⟩ [13, 15, 10, 11, 12, 14] rfl rfl
                                    · refine J_skip ?_
                                      refine N_then ?_
                                      refine J_seq ?_
                                      refine J_region ?_
                                      refine JL_q (wants_none rfl) rfl (ex_move rfl) ?_
                                      refine JL_q (wants_none rfl) rfl (ex_load_bx_agg 0 ti_170 rfl rfl rfl rfl) ?_
                                      refine JL_st (wants_none rfl) rfl (st_buildSlice (vs := [.agg #[v134, .bool true, .int .i64 s31.2.2, .int .i64 s35.2.2]]) ([(⟨z132, true, s31.2.2, s35.2.2⟩ : Gl32Rest)] : List Gl32Rest) Try.underlying171 ti_170 zi_170 rfl rfl rfl (fun w hh => ⟨(Gl32Rest.rdmk (hh.rd 1 rfl) (Rd.mk_bool _ _ _) (Rd.mk_int _ _ _) (Rd.mk_int _ _ _)), trivial⟩)) (fun b148 => ?_)
                                      refine JL_bnd fun z149 hz150 => ?_
                                      refine JL_st (wants_none rfl) rfl (st_append 16 Try.underlying171 ti_170 zi_170 rfl bi_170 rfl rfl rfl rfl (fun w hh => hh.src_ow 0 rfl) hz150) (fun v151 => ?_)
                                      refine JL_q (wants_none rfl) rfl (ex_assign rfl) ?_
                                      refine JL_nil ?_
                                      refine N_then ?_
                                      refine J_seq ?_
                                      refine J_region ?_
                                      refine JL_q (wants_none rfl) rfl (ex_move rfl) ?_
                                      refine JL_q (wants_none rfl) rfl (ex_len_ow 16 Try.underlying171 rfl rfl) ?_
                                      refine JL_q (wants_none rfl) rfl (ex_gtr rfl rfl) ?_
                                      refine JL_nil ?_
                                      refine N_then ?_
                                      refine J_if rfl (fun h152 => ?_) (fun h152 => ?_)
                                      · refine J_seq ?_
                                        refine J_region ?_
                                        refine JL_q (wants_none rfl) rfl (ex_assign rfl) ?_
                                        refine JL_q (wants_none rfl) rfl (ex_assign rfl) ?_
                                        refine JL_nil ?_
                                        refine N_then ?_
                                        refine J_ret ?_
                                        refine N_block_ret ?_
                                        refine N_then_ret ?_
                                        refine N_round_ret ?_
                                        refine N_block_ret ?_
                                        refine N_then_ret ?_
                                        refine N_round_reti ?_
                                        refine N_then_ret ?_
                                        refine N_inl2 hK29 rfl (rv_tmp rfl) (rv_tmp rfl) ?_
                                        refine JL_q (wants_none rfl) rfl (ex_extract rfl rfl) ?_
                                        refine JL_q (wants_none rfl) rfl (ex_extract rfl rfl) ?_
                                        refine JL_q (wants_none rfl) rfl (ex_assign rfl) ?_
                                        refine JL_q (wants_none rfl) rfl (ex_assign rfl) ?_
                                        refine JL_nil ?_
                                        refine N_then ?_
                                        refine J_ret ?_
                                        refine N_inl2 hK19 rfl (rv_tmp rfl) (rv_tmp rfl) ?_
                                        refine JL_q (wants_none rfl) rfl (ex_move rfl) ?_
                                        refine JL_q (wants_none rfl) rfl (ex_extract rfl rfl) ?_
                                        refine JL_q (wants_none rfl) rfl (ex_extract rfl rfl) ?_
                                        refine JL_q (wants_none rfl) rfl (ex_assign rfl) ?_
                                        refine JL_q (wants_none rfl) rfl (ex_assign rfl) ?_
                                        refine JL_nil ?_
                                        refine N_then ?_
                                        refine J_seq ?_
                                        refine J_seq ?_
                                        refine J_region ?_
                                        refine JL_q (wants_none rfl) rfl (ex_move rfl) ?_
                                        refine JL_q (wants_none rfl) rfl (ex_eql rfl rfl) ?_
                                        refine JL_q (wants_none rfl) rfl (ex_move rfl) ?_
                                        refine JL_passed rfl rfl rfl (by decide) ?_
                                        refine JL_passed rfl rfl rfl (by decide) ?_
                                        refine JL_q (wants_none rfl) rfl (ex_pick_false rfl (by decide) rfl) ?_
                                        refine JL_nil ?_
                                        refine N_then ?_
                                        refine J_if_false rfl rfl ?_
                                        refine J_skip ?_
                                        refine N_then ?_
                                        refine J_seq ?_
                                        refine J_region ?_
                                        refine JL_q (wants_none rfl) rfl (ex_move rfl) ?_
                                        refine JL_q (wants_none rfl) rfl (ex_move rfl) ?_
                                        refine JL_q (wants_none rfl) rfl (ex_assign rfl) ?_
                                        refine JL_q (wants_none rfl) rfl (ex_assign rfl) ?_
                                        refine JL_nil ?_
                                        refine N_then ?_
                                        refine J_ret ?_
                                        exact N_ret2 rfl (rv_tmp rfl) (rv_tmp rfl) (fun w hh => ⟨((.slice (some ⟨b48, 0, none⟩) r4.1.length cap49), x6_1, g11), rfl, hh.sel [14, 15] rfl⟩)
                                      · refine J_skip ?_
                                        refine N_block ?_
                                        refine N_then ?_
                                        refine J_region ?_
                                        refine JL_q (wants_none rfl) rfl (ex_move rfl) ?_
                                        refine JL_q (wants_none rfl) rfl (ex_add rfl rfl) ?_
                                        refine JL_q (wants_none rfl) rfl (ex_assign rfl) ?_
                                        refine JL_nil ?_
                                        exact N_next' v151 ⟨rfl, rfl, rfl, rfl, rfl, rfl, rfl, trivial⟩ [14, 16, 11, 12, 13, 15] rfl rfl
                              · refine J_skip ?_
                                refine N_then ?_
                                refine J_seq ?_
                                refine J_region ?_
                                refine JL_q (wants_none rfl) rfl (ex_move rfl) ?_
                                refine JL_q (wants_none rfl) rfl (ex_move rfl) ?_
                                refine JL_bnd fun z153 hz154 => ?_
                                refine JL_st (wants_none rfl) rfl (st_slice 7 Try.underlying27 ti_2 rfl rfl rfl rfl hz154) (fun v155 => ?_)
                                refine JL_q (wants_none rfl) rfl (ex_build si_170 rfl (.cons fi_170_0 rfl rfl .nil) (fun w hh => ⟨(hh.cv 0 rfl), trivial⟩)) ?_
                                refine JL_sk (wants_none rfl) (sk_store_bx' 6 ti_170 rfl rfl (fun w hh => (cv_aggs ⟨(hh.cv 0 rfl), cv_bool, cv_int, cv_int, trivial⟩)) rfl rfl rfl rfl) ?_
                                refine JL_q (wants_none rfl) rfl (ex_assign rfl) ?_
                                refine JL_nil ?_
                                refine N_then ?_
                                refine J_ret ?_
                                refine N_inlD2 hK53 rfl (rv_cell 6 rfl rfl ti_170 rfl) (rv_tmp rfl) 5 [11] rfl rfl ?_
                                refine JD_take (i := 7) hp50 rfl (by kernel_rfl) (by kernel_rfl) (by kernel_rfl) (wants_none rfl) rfl (ex_move rfl) ?_
                                refine JD_take (i := 8) hp50 rfl (by kernel_rfl) (by kernel_rfl) (by kernel_rfl) (wants_none rfl) rfl (ex_extract rfl rfl) ?_
                                refine JD_take (i := 9) hp50 rfl (by kernel_rfl) (by kernel_rfl) (by kernel_rfl) (wants_none rfl) rfl (ex_extract rfl rfl) ?_
                                refine JD_one (i := 10) (by kernel_rfl) ?_
                                refine JO_st rfl (wants_none rfl) rfl (st_alloc zi_170 rfl) (fun _ hk => nomatch hk) (fun b156 => ?_)
                                refine JD_one (i := 11) (by kernel_rfl) ?_
                                refine JO_sk2 0 [0, 1, 5] [2, 3, 4] [10, 11, 12] rfl rfl rfl rfl rfl rfl (wants_none rfl) (sk_store_bx' 0 ti_170 rfl rfl (fun w hh => (cv_aggs ⟨(hh.cv 1 rfl), cv_bool, cv_int, cv_int, trivial⟩)) rfl rfl rfl rfl) (fun _ hk => hk) ?_
                                refine JD_take (i := 12) hp50 rfl (by kernel_rfl) (by kernel_rfl) (by kernel_rfl) (wants_none rfl) rfl (ex_assign rfl) ?_
                                refine JD_done (by kernel_rfl) ?_
                                refine N_then ?_
                                refine J_seq ?_
                                refine J_seq ?_
                                refine J_region ?_
                                refine JL_q (wants_none rfl) rfl (ex_move rfl) ?_
                                refine JL_q (wants_none rfl) rfl (ex_not rfl) ?_
                                refine JL_nil ?_
                                refine N_then ?_
                                refine J_if_false rfl rfl ?_
                                refine J_skip ?_
                                refine N_then ?_
                                refine J_seq ?_
                                refine J_region ?_
                                refine JL_q (wants_none rfl) rfl (ex_move rfl) ?_
                                refine JL_q (wants_none rfl) rfl (ex_fieldAddr fi_170_2 rfl rfl) ?_
                                refine JL_sk (wants_none rfl) (sk_store_bx' 0 ti_3 rfl rfl (fun w hh => cv_int) rfl rfl rfl rfl) ?_
                                refine JL_nil ?_
                                refine N_then ?_
                                refine J_seq ?_
                                refine J_region ?_
                                refine JL_q (wants_none rfl) rfl (ex_move rfl) ?_
                                refine JL_q (wants_none rfl) rfl (ex_fieldAddr fi_170_3 rfl rfl) ?_
                                refine JL_sk (wants_none rfl) (sk_store_bx' 0 ti_2 rfl rfl (fun w hh => cv_int) rfl rfl rfl rfl) ?_
                                refine JL_nil ?_
                                refine N_then ?_
                                refine J_seq ?_
                                refine J_seq ?_
                                refine J_region ?_
                                refine JL_q (wants_none rfl) rfl (ex_fieldAddr fi_170_0 rfl rfl) ?_
                                refine JL_q (wants_none rfl) rfl (ex_load_bx 0 ti_27 rfl rfl rfl) ?_
                                refine JL_q (wants_none rfl) rfl (ex_len_rd 1 Try.underlying27 rfl rfl) ?_
                                refine JL_q (wants_none rfl) rfl (ex_eql rfl rfl) ?_
                                refine JL_nil ?_
                                refine N_then ?_
                                refine J_if rfl (fun h157 => ?_) (fun h157 => ?_)
                                · refine J_seq ?_
                                  refine J_region ?_
                                  refine JL_q (wants_none rfl) rfl (ex_move rfl) ?_
                                  refine JL_bnd fun r158 hr159 => ?_
                                  refine JL_call (wants_none rfl) rfl Try.call142 rfl (Ca_self (fun _ => rfl) fun w hh => c_spec_l32Back _ w (fun _ hk => hk.elim) _ _ (hh.ow0 15 rfl) _ _ (hh.bx_pa 0 rfl (Gl32Rest.rdmk (hh.rd0 1 rfl) (Rd.mk_bool _ _ _) (Rd.mk_int _ _ _) (Rd.mk_int _ _ _)) rfl) _ hr159) (fun x160 => ?_)
                                  refine JL_q (wants_none rfl) rfl (ex_extract rfl rfl) ?_
                                  refine JL_q (wants_none rfl) rfl (ex_extract rfl rfl) ?_
                                  refine JL_q (wants_none rfl) rfl (ex_assign rfl) ?_
                                  refine JL_q (wants_none rfl) rfl (ex_assign rfl) ?_
                                  refine JL_nil ?_
                                  refine N_then ?_
                                  refine J_ret ?_
                                  refine N_then_ret ?_
                                  refine N_block_ret ?_
                                  refine N_then_ret ?_
                                  refine N_round_ret ?_
                                  refine N_block_ret ?_
                                  refine N_then_ret ?_
                                  refine N_round_reti ?_
                                  refine N_then_ret ?_
                                  refine N_inl2 hK29 rfl (rv_tmp rfl) (rv_tmp rfl) ?_
                                  refine JL_q (wants_none rfl) rfl (ex_extract rfl rfl) ?_
                                  refine JL_q (wants_none rfl) rfl (ex_extract rfl rfl) ?_
                                  refine JL_q (wants_none rfl) rfl (ex_assign rfl) ?_
                                  refine JL_q (wants_none rfl) rfl (ex_assign rfl) ?_
                                  refine JL_nil ?_
                                  refine N_then ?_
                                  refine J_ret ?_
                                  refine N_inl2 hK19 rfl (rv_tmp rfl) (rv_tmp rfl) ?_
                                  refine JL_q (wants_none rfl) rfl (ex_move rfl) ?_
                                  refine JL_q (wants_none rfl) rfl (ex_extract rfl rfl) ?_
                                  refine JL_q (wants_none rfl) rfl (ex_extract rfl rfl) ?_
                                  refine JL_q (wants_none rfl) rfl (ex_assign rfl) ?_
                                  refine JL_q (wants_none rfl) rfl (ex_assign rfl) ?_
                                  refine JL_nil ?_
                                  refine N_then ?_
                                  refine J_seq ?_
                                  refine J_seq ?_
                                  refine J_region ?_
                                  refine JL_q (wants_none rfl) rfl (ex_move rfl) ?_
                                  refine JL_q (wants_none rfl) rfl (ex_eql rfl rfl) ?_
                                  refine JL_q (wants_none rfl) rfl (ex_move rfl) ?_
                                  refine JL_cond (fun h161 => ?_) (fun h161 => ?_)
                                  · refine JL_q (wants_some rfl rfl rfl h161) rfl (ex_move rfl) ?_
                                    refine JL_bnd fun r162 hr163 => ?_
                                    refine JL_callT (wants_some rfl rfl rfl h161) rfl Try.call38 rfl (CaT_of [13] [0, 1, 2, 3, 4, 5, 6, 7, 8, 9, 10, 11, 12, 14, 15, 16] rfl rfl (fun _ => rfl) fun w hh => c_spec_l00Src_one w x3_1 (⟨r1.1, s10.1, s10.2.1⟩ : Gl00Src) x3_0 _ rfl (hh.handed [13] rfl rfl rfl rfl) (hh.apart [13] rfl (hh.rd 11 rfl)) _ _ hr163) (fun _ => ?_)
                                    refine JL_q (wants_none rfl) rfl (ex_pick_true rfl h161 rfl) ?_
                                    refine JL_nil ?_
                                    refine N_then ?_
                                    refine J_if rfl (fun h164 => ?_) (fun h164 => ?_)
                                    · refine J_region ?_
                                      refine JL_q (wants_none rfl) rfl (ex_move rfl) ?_
                                      refine JL_q (wants_none rfl) rfl (ex_assign rfl) ?_
                                      refine JL_nil ?_
                                      refine N_then ?_
                                      refine J_seq ?_
                                      refine J_region ?_
                                      refine JL_q (wants_none rfl) rfl (ex_move rfl) ?_
                                      refine JL_q (wants_none rfl) rfl (ex_move rfl) ?_
                                      refine JL_q (wants_none rfl) rfl (ex_assign rfl) ?_
                                      refine JL_q (wants_none rfl) rfl (ex_assign rfl) ?_
                                      refine JL_nil ?_
                                      refine N_then ?_
                                      refine J_ret ?_
                                      exact N_ret2 rfl (rv_tmp rfl) (rv_tmp rfl) (fun w hh => ⟨((.slice (some ⟨b48, 0, none⟩) r4.1.length cap49), x6_1, x160), rfl, hh.sel [14, 1] rfl⟩)
                                    · refine J_skip ?_
                                      refine N_then ?_
                                      refine J_seq ?_
                                      refine J_region ?_
                                      refine JL_q (wants_none rfl) rfl (ex_move rfl) ?_
                                      refine JL_q (wants_none rfl) rfl (ex_move rfl) ?_
                                      refine JL_q (wants_none rfl) rfl (ex_assign rfl) ?_
                                      refine JL_q (wants_none rfl) rfl (ex_assign rfl) ?_
                                      refine JL_nil ?_
                                      refine N_then ?_
                                      refine J_ret ?_
                                      exact N_ret2 rfl (rv_tmp rfl) (rv_tmp rfl) (fun w hh => ⟨((.slice (some ⟨b48, 0, none⟩) r4.1.length cap49), x6_1, g11), rfl, hh.sel [14, 15] rfl⟩)
                                  · refine JL_passed rfl rfl rfl h161 ?_
                                    refine JL_passed rfl rfl rfl h161 ?_
                                    refine JL_q (wants_none rfl) rfl (ex_pick_false rfl h161 rfl) ?_
                                    refine JL_nil ?_
                                    refine N_then ?_
                                    refine J_if_false rfl rfl ?_
                                    refine J_skip ?_
                                    refine N_then ?_
                                    refine J_seq ?_
                                    refine J_region ?_
                                    refine JL_q (wants_none rfl) rfl (ex_move rfl) ?_
                                    refine JL_q (wants_none rfl) rfl (ex_move rfl) ?_
                                    refine JL_q (wants_none rfl) rfl (ex_assign rfl) ?_
                                    refine JL_q (wants_none rfl) rfl (ex_assign rfl) ?_
                                    refine JL_nil ?_
                                    refine N_then ?_
                                    refine J_ret ?_
                                    exact N_ret2 rfl (rv_tmp rfl) (rv_tmp rfl) (fun w hh => ⟨((.slice (some ⟨b48, 0, none⟩) r4.1.length cap49), x6_1, g11), rfl, hh.sel [14, 15] rfl⟩)
                                · refine J_skip ?_
                                  refine N_then ?_
                                  refine J_seq ?_
                                  refine J_seq ?_
                                  refine J_region ?_
                                  refine JL_q (wants_none rfl) rfl (ex_fieldAddr fi_170_0 rfl rfl) ?_
                                  refine JL_q (wants_none rfl) rfl (ex_load_bx 0 ti_27 rfl rfl rfl) ?_
                                  refine JL_q (wants_none rfl) rfl (ex_len_rd 1 Try.underlying27 rfl rfl) ?_
                                  refine JL_q (wants_none rfl) rfl (ex_gtr rfl rfl) ?_
                                  refine JL_nil ?_
                                  refine N_then ?_
                                  refine J_if rfl (fun h165 => ?_) (fun h165 => ?_)
                                  · refine J_seq ?_
                                    refine J_region ?_
                                    refine JL_q (wants_none rfl) rfl (ex_assign rfl) ?_
                                    refine JL_nil ?_
                                    refine N_then ?_
                                    refine J_exit ?_
                                    refine N_then_exit ?_
                                    refine N_block_exit ?_
                                    refine N_then ?_
                                    refine J_region ?_
                                    refine JL_q (wants_none rfl) rfl (ex_move rfl) ?_
                                    refine JL_q (wants_none rfl) rfl (ex_add rfl rfl) ?_
                                    refine JL_q (wants_none rfl) rfl (ex_assign rfl) ?_
                                    refine JL_nil ?_
                                    exact N_next' (.slice (some ⟨b44, 0, none⟩) s35.1.length cap45) ⟨rfl, rfl, rfl, rfl, rfl, rfl, rfl, trivial⟩ [13, 15, 10, 11, 12, 14] rfl rfl
                                  · refine J_skip ?_
                                    refine N_then ?_
                                    refine J_seq ?_
                                    refine J_seq ?_
                                    refine J_region ?_
                                    refine JL_q (wants_none rfl) rfl (ex_move rfl) ?_
                                    refine JL_bnd fun r166 hr167 => ?_
                                    refine JL_call (wants_none rfl) rfl Try.call143 rfl (Ca_of0 fun w hh => c_spec_l32Known _ w (fun _ hk => hk.elim) _ _ (hh.ow0 15 rfl) _ _ (hh.bx_pa 0 rfl (Gl32Rest.rdmk (hh.rd0 1 rfl) (Rd.mk_bool _ _ _) (Rd.mk_int _ _ _) (Rd.mk_int _ _ _)) rfl) _ hr167) (fun _ => ?_)
                                    refine JL_nil ?_
                                    refine N_then ?_
                                    refine J_if rfl (fun h168 => ?_) (fun h168 => ?_)
                                    · refine J_exit ?_
                                      refine N_then_exit ?_
                                      refine N_block_exit ?_
                                      refine N_then ?_
                                      refine J_region ?_
                                      refine JL_q (wants_none rfl) rfl (ex_move rfl) ?_
                                      refine JL_q (wants_none rfl) rfl (ex_add rfl rfl) ?_
                                      refine JL_q (wants_none rfl) rfl (ex_assign rfl) ?_
                                      refine JL_nil ?_
                                      exact N_next' (.slice (some ⟨b44, 0, none⟩) s35.1.length cap45) ⟨rfl, rfl, rfl, rfl, rfl, rfl, rfl, trivial⟩ [13, 15, 10, 11, 12, 14] rfl rfl
                                    · refine J_skip ?_
                                      refine N_then ?_
                                      refine J_seq ?_
                                      refine J_region ?_
                                      refine JL_q (wants_none rfl) rfl (ex_move rfl) ?_
                                      refine JL_q (wants_none rfl) rfl (ex_load_bx_agg 0 ti_170 rfl rfl rfl rfl) ?_
                                      refine JL_st (wants_none rfl) rfl (st_buildSlice (vs := [.agg #[v155, .bool false, .int .i64 s31.2.2, .int .i64 s35.2.2]]) ([(⟨z153, false, s31.2.2, s35.2.2⟩ : Gl32Rest)] : List Gl32Rest) Try.underlying171 ti_170 zi_170 rfl rfl rfl (fun w hh => ⟨(Gl32Rest.rdmk (hh.rd 1 rfl) (Rd.mk_bool _ _ _) (Rd.mk_int _ _ _) (Rd.mk_int _ _ _)), trivial⟩)) (fun b169 => ?_)
                                      refine JL_bnd fun z170 hz171 => ?_
                                      refine JL_st (wants_none rfl) rfl (st_append 16 Try.underlying171 ti_170 zi_170 rfl bi_170 rfl rfl rfl rfl (fun w hh => hh.src_ow 0 rfl) hz171) (fun v172 => ?_)
                                      refine JL_q (wants_none rfl) rfl (ex_assign rfl) ?_
                                      refine JL_nil ?_
                                      refine N_then ?_
                                      refine J_seq ?_
                                      refine J_region ?_
                                      refine JL_q (wants_none rfl) rfl (ex_move rfl) ?_
                                      refine JL_q (wants_none rfl) rfl (ex_len_ow 16 Try.underlying171 rfl rfl) ?_
                                      refine JL_q (wants_none rfl) rfl (ex_gtr rfl rfl) ?_
                                      refine JL_nil ?_
                                      refine N_then ?_
                                      refine J_if rfl (fun h173 => ?_) (fun h173 => ?_)
                                      · refine J_seq ?_
                                        refine J_region ?_
                                        refine JL_q (wants_none rfl) rfl (ex_assign rfl) ?_
                                        refine JL_q (wants_none rfl) rfl (ex_assign rfl) ?_
                                        refine JL_nil ?_
                                        refine N_then ?_
                                        refine J_ret ?_
                                        refine N_block_ret ?_
                                        refine N_then_ret ?_
                                        refine N_round_ret ?_
                                        refine N_block_ret ?_
                                        refine N_then_ret ?_
                                        refine N_round_reti ?_
                                        refine N_then_ret ?_
                                        refine N_inl2 hK29 rfl (rv_tmp rfl) (rv_tmp rfl) ?_
                                        refine JL_q (wants_none rfl) rfl (ex_extract rfl rfl) ?_
                                        refine JL_q (wants_none rfl) rfl (ex_extract rfl rfl) ?_
                                        refine JL_q (wants_none rfl) rfl (ex_assign rfl) ?_
                                        refine JL_q (wants_none rfl) rfl (ex_assign rfl) ?_
                                        refine JL_nil ?_
                                        refine N_then ?_
                                        refine J_ret ?_
                                        refine N_inl2 hK19 rfl (rv_tmp rfl) (rv_tmp rfl) ?_
                                        refine JL_q (wants_none rfl) rfl (ex_move rfl) ?_
                                        refine JL_q (wants_none rfl) rfl (ex_extract rfl rfl) ?_
                                        refine JL_q (wants_none rfl) rfl (ex_extract rfl rfl) ?_
                                        refine JL_q (wants_none rfl) rfl (ex_assign rfl) ?_
                                        refine JL_q (wants_none rfl) rfl (ex_assign rfl) ?_
                                        refine JL_nil ?_
                                        refine N_then ?_
                                        refine J_seq ?_
                                        refine J_seq ?_
                                        refine J_region ?_
                                        refine JL_q (wants_none rfl) rfl (ex_move rfl) ?_
                                        refine JL_q (wants_none rfl) rfl (ex_eql rfl rfl) ?_
                                        refine JL_q (wants_none rfl) rfl (ex_move rfl) ?_
                                        refine JL_passed rfl rfl rfl (by decide) ?_
                                        refine JL_passed rfl rfl rfl (by decide) ?_
                                        refine JL_q (wants_none rfl) rfl (ex_pick_false rfl (by decide) rfl) ?_
                                        refine JL_nil ?_
                                        refine N_then ?_
                                        refine J_if_false rfl rfl ?_
                                        refine J_skip ?_
                                        refine N_then ?_
                                        refine J_seq ?_
                                        refine J_region ?_
                                        refine JL_q (wants_none rfl) rfl (ex_move rfl) ?_
                                        refine JL_q (wants_none rfl) rfl (ex_move rfl) ?_
                                        refine JL_q (wants_none rfl) rfl (ex_assign rfl) ?_
                                        refine JL_q (wants_none rfl) rfl (ex_assign rfl) ?_
                                        refine JL_nil ?_
                                        refine N_then ?_
                                        refine J_ret ?_
                                        exact N_ret2 rfl (rv_tmp rfl) (rv_tmp rfl) (fun w hh => ⟨((.slice (some ⟨b48, 0, none⟩) r4.1.length cap49), x6_1, g11), rfl, hh.sel [14, 15] rfl⟩)
                                      · refine J_skip ?_
                                        refine N_block ?_
                                        refine N_then ?_
                                        refine J_region ?_
                                        refine JL_q (wants_none rfl) rfl (ex_move rfl) ?_
                                        refine JL_q (wants_none rfl) rfl (ex_add rfl rfl) ?_
                                        refine JL_q (wants_none rfl) rfl (ex_assign rfl) ?_
                                        refine JL_nil ?_
                                        exact N_next' v172 ⟨rfl, rfl, rfl, rfl, rfl, rfl, rfl, trivial⟩ [14, 16, 11, 12, 13, 15] rfl rfl
                        · refine JO_st rfl (wants_none rfl) rfl (st_alloc zi_170 rfl) (fun _ hk => nomatch hk) (fun b174 => ?_)
                          refine JD_one (i := 6) (by kernel_rfl) ?_
                          refine JO_inline h1_52 [0, 1, 5] [4] rfl rfl rfl rfl (wants_none rfl) rfl Try.call141 rfl Try.func141 rfl Try.ntmps141 rfl rfl (fun C176 K_ hK175 => ?_)
                          refine J_seq ?_
                          refine J_region ?_
                          refine JL_st (wants_none rfl) rfl (st_alloc zi_170 rfl) (fun b177 => ?_)
                          refine JL_q (wants_none rfl) rfl (ex_assign rfl) ?_
                          refine JL_nil ?_
                          refine N_then ?_
                          refine J_seq ?_
                          refine J_region ?_
                          refine JL_q (wants_none rfl) rfl (ex_move rfl) ?_
                          refine JL_q (wants_none rfl) rfl (ex_nilCheck rfl) ?_
                          refine JL_q (wants_none rfl) rfl (ex_fieldAddr fi_50_0 rfl rfl) ?_
                          refine JL_st (wants_none rfl) rfl (st_od 3 rfl (st_load_ow_part 3 (opens_sl _) (GDomino.at_Top _) rfl ti_27 rfl rfl hy47) (fun _ => rfl)) (fun v178 => ?_)
                          refine JL_bnd fun r179 hr180 => ?_
                          refine JL_call (wants_none rfl) rfl Try.call120 rfl (Ca_self (fun _ => rfl) fun w hh => c_spec_l00Own _ w (fun _ hk => hk.elim) _ _ (hh.rd0 0 rfl) _ hr180) (fun x181 => ?_)
                          refine JL_q (wants_none rfl) rfl (ex_assign rfl) ?_
                          refine JL_nil ?_
                          refine N_then ?_
                          refine J_seq ?_
                          refine J_region ?_
                          refine JL_q (wants_none rfl) rfl (ex_move rfl) ?_
                          refine JL_q (wants_none rfl) rfl (ex_nilCheck rfl) ?_
                          refine JL_q (wants_none rfl) rfl (ex_fieldAddr fi_50_1 rfl rfl) ?_
                          refine JL_st (wants_none rfl) rfl (st_od 5 rfl (st_load_ow_part 5 (opens_sl _) (GDomino.at_Bottom _) rfl ti_27 rfl rfl hy47) (fun _ => rfl)) (fun v182 => ?_)
                          refine JL_bnd fun r183 hr184 => ?_
                          refine JL_call (wants_none rfl) rfl Try.call120 rfl (Ca_self (fun _ => rfl) fun w hh => c_spec_l00Own _ w (fun _ hk => hk.elim) _ _ (hh.rd0 0 rfl) _ hr184) (fun x185 => ?_)
                          refine JL_q (wants_none rfl) rfl (ex_assign rfl) ?_
                          refine JL_nil ?_
                          refine N_then ?_
                          refine J_seq ?_
                          refine J_cut' (S' := (List Int) × (List Int)) (G' := Value × Value) (fun s186 g187 => [(4, .pointer (some ⟨b177, 0, none⟩)), (6, g187.1), (7, g187.2)]) (fun s186 g187 => [.fz w51 C176, .bx b177 170 [.slice none 0 0, .bool false, .int .i64 0, .int .i64 0], .ow 2 g187.1 s186.1, .ow 2 g187.2 s186.2, .rd x3_0 r1.1, .pr (Sub v0_ p0 x3_0 r1.1), .bx x3_1 131 [x3_0, .int .i64 s10.1, .int .u64 s10.2.1.val], .od 50 (.slice (some ⟨b48, 0, none⟩) r4.1.length cap49) r4.1 x6_1, .ow 2 g11 s10.2.2.1, .ow 170 (.slice (some ⟨b44, 0, none⟩) s35.1.length cap45) s35.1, .bx b174 170 [.slice none 0 0, .bool false, .int .i64 0, .int .i64 0]]) ?_ (fun s186 g187 => ?_)
                          · refine J_seq ?_
                            refine J_region ?_
                            refine JL_q (wants_none rfl) rfl (ex_move rfl) ?_
                            refine JL_q (wants_none rfl) rfl (ex_nilCheck rfl) ?_
                            refine JL_q (wants_none rfl) rfl (ex_fieldAddr fi_170_1 rfl rfl) ?_
                            refine JL_st (wants_none rfl) rfl (st_load_ow_part 8 (opens_bool _) (Gl32Rest.at_upper _) rfl ti_4 rfl rfl hy43) (fun _ => ?_)
                            refine JL_nil ?_
                            refine N_then ?_
                            refine J_if rfl (fun h189 => ?_) (fun h189 => ?_)
                            · refine J_draw [] (by kernel_rfl) ?_
                              refine JP_take (i := 0) [0, 1, 2, 3, 4, 5, 6, 7, 8, 9, 10, 11, 12] [] rfl (by kernel_rfl) (by kernel_rfl) (by kernel_rfl) rfl rfl (wants_none rfl) rfl (ex_move rfl) ?_
                              refine JP_take (i := 1) [0, 1, 2, 3, 4, 5, 6, 7, 8, 9, 10, 11, 12] [] rfl (by kernel_rfl) (by kernel_rfl) (by kernel_rfl) rfl rfl (wants_none rfl) rfl (ex_nilCheck rfl) ?_
                              refine JP_take (i := 2) [0, 1, 2, 3, 4, 5, 6, 7, 8, 9, 10, 11, 12] [] rfl (by kernel_rfl) (by kernel_rfl) (by kernel_rfl) rfl rfl (wants_none rfl) rfl (ex_fieldAddr fi_170_0 rfl rfl) ?_
                              refine JP_take (i := 5) [0, 1, 2, 3, 4, 5, 6, 7, 8, 9, 10, 11, 12] [] rfl (by kernel_rfl) (by kernel_rfl) (by kernel_rfl) rfl rfl (wants_none rfl) rfl (ex_move rfl) ?_
                              refine JP_take (i := 6) [0, 1, 2, 3, 4, 5, 6, 7, 8, 9, 10, 11, 12] [] rfl (by kernel_rfl) (by kernel_rfl) (by kernel_rfl) rfl rfl (wants_none rfl) rfl (ex_nilCheck rfl) ?_
                              refine JP_take (i := 7) [0, 1, 2, 3, 4, 5, 6, 7, 8, 9, 10, 11, 12] [] rfl (by kernel_rfl) (by kernel_rfl) (by kernel_rfl) rfl rfl (wants_none rfl) rfl (ex_fieldAddr fi_50_0 rfl rfl) ?_
                              refine JP_go [0, 1, 2, 3, 4, 5, 6, 7, 8, 9, 10, 11, 12] [] rfl rfl rfl (fun w191 h1_192 hp190 => ?_)
                              refine JD_two (i := 3) (j := 8) (by kernel_rfl) ?_ ?_
                              · refine JO_st rfl (wants_none rfl) rfl (st_load_ow_part 8 (opens_sl _) (Gl32Rest.at_word _) rfl ti_27 rfl rfl hy43) (fun _ hk => nomatch hk) (fun v193 => ?_)
                                refine JD_bnd fun r194 hr195 => ?_
                                refine JD_two (i := 4) (j := 8) (by kernel_rfl) ?_ ?_
                                · refine JO_call rfl (wants_none rfl) rfl Try.call120 rfl (Ca_self (fun _ => rfl) fun w hh => c_spec_l00Own _ w (fun _ hk => hk.elim) _ _ (hh.rd0 0 rfl) _ hr195) (fun x196 => ?_)
                                  refine JD_one (i := 8) (by kernel_rfl) ?_
                                  refine JO_st rfl (wants_none rfl) rfl (st_od 9 rfl (st_load_ow_part 9 (opens_sl _) (GDomino.at_Top _) rfl ti_27 rfl rfl hy47) (fun _ => rfl)) (fun _ hk => nomatch hk) (fun v197 => ?_)
                                  refine JD_bnd fun z198 hz199 => ?_
                                  refine JD_one (i := 9) (by kernel_rfl) ?_
                                  refine JO_st2 1 [] [0, 1, 2, 3, 4, 5, 6, 7, 8, 9, 10, 11, 12] [3, 4, 5, 6, 7, 8, 9, 10, 11, 12, 13, 14, 15] rfl rfl rfl rfl rfl rfl (wants_none rfl) rfl (st_append 1 Try.underlying27 ti_2 zi_2 rfl bi_2 rfl rfl rfl rfl (fun w hh => hh.src_rd 0 rfl) hz199) (fun _ hk => hk) (fun v200 => ?_)
                                  refine JD_take (i := 10) hp190 rfl (by kernel_rfl) (by kernel_rfl) (by kernel_rfl) (wants_none rfl) rfl (ex_assign rfl) ?_
                                  refine JD_done (by kernel_rfl) ?_
                                  exact N_meet' (v200, x185) ⟨rfl, rfl, rfl, trivial⟩ [8, 7, 1, 3, 12, 13, 14, 10, 15, 11, 9] rfl rfl
                                · refine JO_st rfl (wants_none rfl) rfl (st_od 8 rfl (st_load_ow_part 8 (opens_sl _) (GDomino.at_Top _) rfl ti_27 rfl rfl hy47) (fun _ => rfl)) (fun _ hk => nomatch hk) (fun v201 => ?_)
                                  refine JD_one (i := 4) (by kernel_rfl) ?_
                                  refine JO_call rfl (wants_none rfl) rfl Try.call120 rfl (Ca_self (fun _ => rfl) fun w hh => c_spec_l00Own _ w (fun _ hk => hk.elim) _ _ (hh.rd0 1 rfl) _ hr195) (fun x202 => ?_)
                                  refine JD_bnd fun z203 hz204 => ?_
                                  refine JD_one (i := 9) (by kernel_rfl) ?_
                                  refine JO_st2 0 [] [0, 1, 2, 3, 4, 5, 6, 7, 8, 9, 10, 11, 12] [3, 4, 5, 6, 7, 8, 9, 10, 11, 12, 13, 14, 15] rfl rfl rfl rfl rfl rfl (wants_none rfl) rfl (st_append 0 Try.underlying27 ti_2 zi_2 rfl bi_2 rfl rfl rfl rfl (fun w hh => hh.src_rd 1 rfl) hz204) (fun _ hk => hk) (fun v205 => ?_)
                                  refine JD_take (i := 10) hp190 rfl (by kernel_rfl) (by kernel_rfl) (by kernel_rfl) (wants_none rfl) rfl (ex_assign rfl) ?_
                                  refine JD_done (by kernel_rfl) ?_
                                  exact N_meet' (v205, x185) ⟨rfl, rfl, rfl, trivial⟩ [8, 7, 0, 3, 12, 13, 14, 10, 15, 11, 9] rfl rfl
                              · refine JO_st rfl (wants_none rfl) rfl (st_od 7 rfl (st_load_ow_part 7 (opens_sl _) (GDomino.at_Top _) rfl ti_27 rfl rfl hy47) (fun _ => rfl)) (fun _ hk => nomatch hk) (fun v206 => ?_)
                                refine JD_one (i := 3) (by kernel_rfl) ?_
                                refine JO_st rfl (wants_none rfl) rfl (st_load_ow_part 9 (opens_sl _) (Gl32Rest.at_word _) rfl ti_27 rfl rfl hy43) (fun _ hk => nomatch hk) (fun v207 => ?_)
                                refine JD_bnd fun r208 hr209 => ?_
                                refine JD_one (i := 4) (by kernel_rfl) ?_
                                refine JO_call rfl (wants_none rfl) rfl Try.call120 rfl (Ca_self (fun _ => rfl) fun w hh => c_spec_l00Own _ w (fun _ hk => hk.elim) _ _ (hh.rd0 0 rfl) _ hr209) (fun x210 => ?_)
                                refine JD_bnd fun z211 hz212 => ?_
                                refine JD_one (i := 9) (by kernel_rfl) ?_
                                refine JO_st2 0 [] [0, 1, 2, 3, 4, 5, 6, 7, 8, 9, 10, 11, 12] [3, 4, 5, 6, 7, 8, 9, 10, 11, 12, 13, 14, 15] rfl rfl rfl rfl rfl rfl (wants_none rfl) rfl (st_append 0 Try.underlying27 ti_2 zi_2 rfl bi_2 rfl rfl rfl rfl (fun w hh => hh.src_rd 2 rfl) hz212) (fun _ hk => hk) (fun v213 => ?_)
                                refine JD_take (i := 10) hp190 rfl (by kernel_rfl) (by kernel_rfl) (by kernel_rfl) (wants_none rfl) rfl (ex_assign rfl) ?_
                                refine JD_done (by kernel_rfl) ?_
                                exact N_meet' (v213, x185) ⟨rfl, rfl, rfl, trivial⟩ [8, 7, 0, 3, 12, 13, 14, 10, 15, 11, 9] rfl rfl
                            · refine J_draw [] (by kernel_rfl) ?_
                              refine JP_take (i := 0) [0, 1, 2, 3, 4, 5, 6, 7, 8, 9, 10, 11, 12] [] rfl (by kernel_rfl) (by kernel_rfl) (by kernel_rfl) rfl rfl (wants_none rfl) rfl (ex_move rfl) ?_
                              refine JP_take (i := 1) [0, 1, 2, 3, 4, 5, 6, 7, 8, 9, 10, 11, 12] [] rfl (by kernel_rfl) (by kernel_rfl) (by kernel_rfl) rfl rfl (wants_none rfl) rfl (ex_nilCheck rfl) ?_
                              refine JP_take (i := 2) [0, 1, 2, 3, 4, 5, 6, 7, 8, 9, 10, 11, 12] [] rfl (by kernel_rfl) (by kernel_rfl) (by kernel_rfl) rfl rfl (wants_none rfl) rfl (ex_fieldAddr fi_170_0 rfl rfl) ?_
                              refine JP_take (i := 5) [0, 1, 2, 3, 4, 5, 6, 7, 8, 9, 10, 11, 12] [] rfl (by kernel_rfl) (by kernel_rfl) (by kernel_rfl) rfl rfl (wants_none rfl) rfl (ex_move rfl) ?_
                              refine JP_take (i := 6) [0, 1, 2, 3, 4, 5, 6, 7, 8, 9, 10, 11, 12] [] rfl (by kernel_rfl) (by kernel_rfl) (by kernel_rfl) rfl rfl (wants_none rfl) rfl (ex_nilCheck rfl) ?_
                              refine JP_take (i := 7) [0, 1, 2, 3, 4, 5, 6, 7, 8, 9, 10, 11, 12] [] rfl (by kernel_rfl) (by kernel_rfl) (by kernel_rfl) rfl rfl (wants_none rfl) rfl (ex_fieldAddr fi_50_1 rfl rfl) ?_
                              refine JP_go [0, 1, 2, 3, 4, 5, 6, 7, 8, 9, 10, 11, 12] [] rfl rfl rfl (fun w215 h1_216 hp214 => ?_)
                              refine JD_two (i := 3) (j := 8) (by kernel_rfl) ?_ ?_
                              · refine JO_st rfl (wants_none rfl) rfl (st_load_ow_part 8 (opens_sl _) (Gl32Rest.at_word _) rfl ti_27 rfl rfl hy43) (fun _ hk => nomatch hk) (fun v217 => ?_)
                                refine JD_bnd fun r218 hr219 => ?_
                                refine JD_two (i := 4) (j := 8) (by kernel_rfl) ?_ ?_
                                · refine JO_call rfl (wants_none rfl) rfl Try.call120 rfl (Ca_self (fun _ => rfl) fun w hh => c_spec_l00Own _ w (fun _ hk => hk.elim) _ _ (hh.rd0 0 rfl) _ hr219) (fun x220 => ?_)
                                  refine JD_one (i := 8) (by kernel_rfl) ?_
                                  refine JO_st rfl (wants_none rfl) rfl (st_od 9 rfl (st_load_ow_part 9 (opens_sl _) (GDomino.at_Bottom _) rfl ti_27 rfl rfl hy47) (fun _ => rfl)) (fun _ hk => nomatch hk) (fun v221 => ?_)
                                  refine JD_bnd fun z222 hz223 => ?_
                                  refine JD_one (i := 9) (by kernel_rfl) ?_
                                  refine JO_st2 1 [] [0, 1, 2, 3, 4, 5, 6, 7, 8, 9, 10, 11, 12] [3, 4, 5, 6, 7, 8, 9, 10, 11, 12, 13, 14, 15] rfl rfl rfl rfl rfl rfl (wants_none rfl) rfl (st_append 1 Try.underlying27 ti_2 zi_2 rfl bi_2 rfl rfl rfl rfl (fun w hh => hh.src_rd 0 rfl) hz223) (fun _ hk => hk) (fun v224 => ?_)
                                  refine JD_take (i := 10) hp214 rfl (by kernel_rfl) (by kernel_rfl) (by kernel_rfl) (wants_none rfl) rfl (ex_assign rfl) ?_
                                  refine JD_done (by kernel_rfl) ?_
                                  exact N_meet' (x181, v224) ⟨rfl, rfl, rfl, trivial⟩ [8, 7, 5, 1, 12, 13, 14, 10, 15, 11, 9] rfl rfl
                                · refine JO_st rfl (wants_none rfl) rfl (st_od 8 rfl (st_load_ow_part 8 (opens_sl _) (GDomino.at_Bottom _) rfl ti_27 rfl rfl hy47) (fun _ => rfl)) (fun _ hk => nomatch hk) (fun v225 => ?_)
                                  refine JD_one (i := 4) (by kernel_rfl) ?_
                                  refine JO_call rfl (wants_none rfl) rfl Try.call120 rfl (Ca_self (fun _ => rfl) fun w hh => c_spec_l00Own _ w (fun _ hk => hk.elim) _ _ (hh.rd0 1 rfl) _ hr219) (fun x226 => ?_)
                                  refine JD_bnd fun z227 hz228 => ?_
                                  refine JD_one (i := 9) (by kernel_rfl) ?_
                                  refine JO_st2 0 [] [0, 1, 2, 3, 4, 5, 6, 7, 8, 9, 10, 11, 12] [3, 4, 5, 6, 7, 8, 9, 10, 11, 12, 13, 14, 15] rfl rfl rfl rfl rfl rfl (wants_none rfl) rfl (st_append 0 Try.underlying27 ti_2 zi_2 rfl bi_2 rfl rfl rfl rfl (fun w hh => hh.src_rd 1 rfl) hz228) (fun _ hk => hk) (fun v229 => ?_)
                                  refine JD_take (i := 10) hp214 rfl (by kernel_rfl) (by kernel_rfl) (by kernel_rfl) (wants_none rfl) rfl (ex_assign rfl) ?_
                                  refine JD_done (by kernel_rfl) ?_
                                  exact N_meet' (x181, v229) ⟨rfl, rfl, rfl, trivial⟩ [8, 7, 5, 0, 12, 13, 14, 10, 15, 11, 9] rfl rfl
                              · refine JO_st rfl (wants_none rfl) rfl (st_od 7 rfl (st_load_ow_part 7 (opens_sl _) (GDomino.at_Bottom _) rfl ti_27 rfl rfl hy47) (fun _ => rfl)) (fun _ hk => nomatch hk) (fun v230 => ?_)
                                refine JD_one (i := 3) (by kernel_rfl) ?_
                                refine JO_st rfl (wants_none rfl) rfl (st_load_ow_part 9 (opens_sl _) (Gl32Rest.at_word _) rfl ti_27 rfl rfl hy43) (fun _ hk => nomatch hk) (fun v231 => ?_)
                                refine JD_bnd fun r232 hr233 => ?_
                                refine JD_one (i := 4) (by kernel_rfl) ?_
                                refine JO_call rfl (wants_none rfl) rfl Try.call120 rfl (Ca_self (fun _ => rfl) fun w hh => c_spec_l00Own _ w (fun _ hk => hk.elim) _ _ (hh.rd0 0 rfl) _ hr233) (fun x234 => ?_)
                                refine JD_bnd fun z235 hz236 => ?_
                                refine JD_one (i := 9) (by kernel_rfl) ?_
                                refine JO_st2 0 [] [0, 1, 2, 3, 4, 5, 6, 7, 8, 9, 10, 11, 12] [3, 4, 5, 6, 7, 8, 9, 10, 11, 12, 13, 14, 15] rfl rfl rfl rfl rfl rfl (wants_none rfl) rfl (st_append 0 Try.underlying27 ti_2 zi_2 rfl bi_2 rfl rfl rfl rfl (fun w hh => hh.src_rd 2 rfl) hz236) (fun _ hk => hk) (fun v237 => ?_)
                                refine JD_take (i := 10) hp214 rfl (by kernel_rfl) (by kernel_rfl) (by kernel_rfl) (wants_none rfl) rfl (ex_assign rfl) ?_
                                refine JD_done (by kernel_rfl) ?_
                                exact N_meet' (x181, v237) ⟨rfl, rfl, rfl, trivial⟩ [8, 7, 5, 0, 12, 13, 14, 10, 15, 11, 9] rfl rfl
                          · obtain ⟨g187_0, g187_1⟩ := g187
                            refine N_then ?_
                            refine J_seq ?_
                            refine J_region ?_
                            refine JL_q (wants_none rfl) rfl (ex_move rfl) ?_
                            refine JL_q (wants_none rfl) rfl (ex_len_ow 2 Try.underlying27 rfl rfl) ?_
                            refine JL_q (wants_none rfl) rfl (ex_move rfl) ?_
                            refine JL_q (wants_none rfl) rfl (ex_len_ow 3 Try.underlying27 rfl rfl) ?_
                            refine JL_bnd fun r238 hr239 => ?_
                            refine JL_call (wants_none rfl) rfl Try.call161 rfl (Ca_of0 fun w hh => c_spec_l00Min _ w (fun _ hk => hk.elim) _ _ _ hr239) (fun _ => ?_)
                            refine JL_q (wants_none rfl) rfl (ex_assign rfl) ?_
                            refine JL_nil ?_
                            refine N_then ?_
                            refine J_seq ?_
                            refine J_seq ?_
                            refine J_draw [] (by kernel_rfl) ?_
                            refine JP_take (i := 0) [0, 1, 2, 3, 4, 5, 6, 7, 8, 9, 10] [] rfl (by kernel_rfl) (by kernel_rfl) (by kernel_rfl) rfl rfl (wants_none rfl) rfl (ex_move rfl) ?_
                            refine JP_take (i := 1) [0, 1, 2, 3, 4, 5, 6, 7, 8, 9, 10] [] rfl (by kernel_rfl) (by kernel_rfl) (by kernel_rfl) rfl rfl (wants_none rfl) rfl (ex_move rfl) ?_
                            refine JP_bnd fun z240 hz241 => ?_
                            refine JP_ctx (fun w hh => hh.tokf 2 rfl rfl) ?_
                            refine JP_sq (i := 2) [] rfl (by kernel_rfl) (by kernel_rfl) (by kernel_rfl) rfl (wants_none rfl) rfl (sq_slice 3 Try.underlying27 ti_2 rfl rfl rfl rfl hz241) (fun v242 => ?_)
                            refine JP_take (i := 3) [0, 1, 2, 3, 4, 5, 6, 7, 8, 9, 10, 11, 12] [] rfl (by kernel_rfl) (by kernel_rfl) (by kernel_rfl) rfl rfl (wants_none rfl) rfl (ex_move rfl) ?_
                            refine JP_take (i := 4) [0, 1, 2, 3, 4, 5, 6, 7, 8, 9, 10, 11, 12] [] rfl (by kernel_rfl) (by kernel_rfl) (by kernel_rfl) rfl rfl (wants_none rfl) rfl (ex_move rfl) ?_
                            refine JP_bnd fun z243 hz244 => ?_
                            refine JP_ctx (fun w hh => hh.tokf 5 rfl rfl) ?_
                            refine JP_sq (i := 5) [] rfl (by kernel_rfl) (by kernel_rfl) (by kernel_rfl) rfl (wants_none rfl) rfl (sq_slice 6 Try.underlying27 ti_2 rfl rfl rfl rfl hz244) (fun v245 => ?_)
                            refine JP_go [0, 1, 2, 3, 4, 5, 6, 7, 8, 9, 10, 11, 12, 13, 14] [] rfl rfl rfl (fun w247 h1_248 hp246 => ?_)
                            refine JD_bnd fun r249 hr250 => ?_
                            refine JD_one (i := 6) (by kernel_rfl) ?_
                            refine JO_call rfl (wants_none rfl) rfl Try.call162 rfl (Ca_of0 fun w hh => c_spec_l00Same _ w (fun _ hk => hk.elim) _ _ (hh.rd0 2 rfl) _ _ (hh.rd0 0 rfl) _ hr250) (fun _ => ?_)
                            refine JD_take (i := 7) hp246 rfl (by kernel_rfl) (by kernel_rfl) (by kernel_rfl) (wants_none rfl) rfl (ex_not rfl) ?_
                            refine JD_done (by kernel_rfl) ?_
                            refine N_then ?_
                            refine J_if rfl (fun h251 => ?_) (fun h251 => ?_)
                            · refine J_seq ?_
                              refine J_region ?_
                              refine JL_q (wants_none rfl) rfl (ex_build si_170 rfl .nil (fun w hh => trivial)) ?_
                              refine JL_sk (wants_none rfl) (sk_store_bx' 5 ti_170 rfl rfl (fun w hh => (cv_aggs ⟨cv_slice, cv_bool, cv_int, cv_int, trivial⟩)) rfl rfl rfl rfl) ?_
                              refine JL_q (wants_none rfl) rfl (ex_assign rfl) ?_
                              refine JL_nil ?_
                              refine N_then ?_
                              refine J_ret ?_
                              refine N_then_ret ?_
                              refine N_inlD2 hK175 rfl (rv_cell 5 rfl rfl ti_170 rfl) (rv_tmp rfl) 4 [10] rfl rfl ?_
                              refine JD_take (i := 7) hp50 rfl (by kernel_rfl) (by kernel_rfl) (by kernel_rfl) (wants_none rfl) rfl (ex_move rfl) ?_
                              refine JD_take (i := 8) hp50 rfl (by kernel_rfl) (by kernel_rfl) (by kernel_rfl) (wants_none rfl) rfl (ex_extract rfl rfl) ?_
                              refine JD_take (i := 9) hp50 rfl (by kernel_rfl) (by kernel_rfl) (by kernel_rfl) (wants_none rfl) rfl (ex_extract rfl rfl) ?_
                              refine JD_one (i := 11) (by kernel_rfl) ?_
                              refine JO_sk2 14 [0, 1, 5] [2, 3, 4] [8, 9, 10] rfl rfl rfl rfl rfl rfl (wants_none rfl) (sk_store_bx' 14 ti_170 rfl rfl (fun w hh => (cv_aggs ⟨cv_slice, cv_bool, cv_int, cv_int, trivial⟩)) rfl rfl rfl rfl) (fun _ hk => hk) ?_
                              refine JD_take (i := 12) hp50 rfl (by kernel_rfl) (by kernel_rfl) (by kernel_rfl) (wants_none rfl) rfl (ex_assign rfl) ?_
                              refine JD_done (by kernel_rfl) ?_
                              refine N_then ?_
                              refine J_seq ?_
                              refine J_seq ?_
                              refine J_region ?_
                              refine JL_q (wants_none rfl) rfl (ex_move rfl) ?_
                              refine JL_q (wants_none rfl) rfl (ex_not rfl) ?_
                              refine JL_nil ?_
                              refine N_then ?_
                              refine J_if_true rfl rfl ?_
                              refine J_exit ?_
                              refine N_then_exit ?_
                              refine N_block_exit ?_
                              refine N_then ?_
                              refine J_region ?_
                              refine JL_q (wants_none rfl) rfl (ex_move rfl) ?_
                              refine JL_q (wants_none rfl) rfl (ex_add rfl rfl) ?_
                              refine JL_q (wants_none rfl) rfl (ex_assign rfl) ?_
                              refine JL_nil ?_
                              exact N_next' (.slice (some ⟨b44, 0, none⟩) s35.1.length cap45) ⟨rfl, rfl, rfl, rfl, rfl, rfl, rfl, trivial⟩ [11, 13, 8, 9, 10, 12] rfl rfl
                            · refine J_skip ?_
                              refine N_then ?_
                              refine J_seq ?_
                              refine J_seq ?_
                              refine J_region ?_
                              refine JL_q (wants_none rfl) rfl (ex_move rfl) ?_
                              refine JL_q (wants_none rfl) rfl (ex_len_rd 6 Try.underlying27 rfl rfl) ?_
                              refine JL_q (wants_none rfl) rfl (ex_move rfl) ?_
                              refine JL_q (wants_none rfl) rfl (ex_gtr rfl rfl) ?_
                              refine JL_nil ?_
                              refine N_then ?_
                              refine J_if rfl (fun h252 => ?_) (fun h252 => ?_)
                              · refine J_seq ?_
                                refine J_region ?_
                                refine JL_q (wants_none rfl) rfl (ex_move rfl) ?_
                                refine JL_q (wants_none rfl) rfl (ex_move rfl) ?_
                                refine JL_bnd fun z253 hz254 => ?_
                                refine JL_st (wants_none rfl) rfl (st_slice 6 Try.underlying27 ti_2 rfl rfl rfl rfl hz254) (fun v255 => ?_)
                                refine JL_q (wants_none rfl) rfl (ex_build si_170 rfl (.cons fi_170_0 rfl rfl (.cons fi_170_1 rfl rfl .nil)) (fun w hh => ⟨(hh.cv 0 rfl), cv_bool, trivial⟩)) ?_
                                refine JL_sk (wants_none rfl) (sk_store_bx' 6 ti_170 rfl rfl (fun w hh => (cv_aggs ⟨(hh.cv 0 rfl), cv_bool, cv_int, cv_int, trivial⟩)) rfl rfl rfl rfl) ?_
                                refine JL_q (wants_none rfl) rfl (ex_assign rfl) ?_
                                refine JL_nil ?_
                                refine N_then ?_
                                refine J_ret ?_
                                refine N_then_ret ?_
                                refine N_inlD2 hK175 rfl (rv_cell 6 rfl rfl ti_170 rfl) (rv_tmp rfl) 5 [11] rfl rfl ?_
                                refine JD_take (i := 7) hp50 rfl (by kernel_rfl) (by kernel_rfl) (by kernel_rfl) (wants_none rfl) rfl (ex_move rfl) ?_
                                refine JD_take (i := 8) hp50 rfl (by kernel_rfl) (by kernel_rfl) (by kernel_rfl) (wants_none rfl) rfl (ex_extract rfl rfl) ?_
                                refine JD_take (i := 9) hp50 rfl (by kernel_rfl) (by kernel_rfl) (by kernel_rfl) (wants_none rfl) rfl (ex_extract rfl rfl) ?_
                                refine JD_one (i := 11) (by kernel_rfl) ?_
                                refine JO_sk2 15 [0, 1, 5] [2, 3, 4] [9, 10, 11] rfl rfl rfl rfl rfl rfl (wants_none rfl) (sk_store_bx' 15 ti_170 rfl rfl (fun w hh => (cv_aggs ⟨(hh.cv 0 rfl), cv_bool, cv_int, cv_int, trivial⟩)) rfl rfl rfl rfl) (fun _ hk => hk) ?_
                                refine JD_take (i := 12) hp50 rfl (by kernel_rfl) (by kernel_rfl) (by kernel_rfl) (wants_none rfl) rfl (ex_assign rfl) ?_
                                refine JD_done (by kernel_rfl) ?_
                                refine N_then ?_
                                refine J_seq ?_
                                refine J_seq ?_
                                refine J_region ?_
                                refine JL_q (wants_none rfl) rfl (ex_move rfl) ?_
                                refine JL_q (wants_none rfl) rfl (ex_not rfl) ?_
                                refine JL_nil ?_
                                refine N_then ?_
                                refine J_if_false rfl rfl ?_
                                refine J_skip ?_
                                refine N_then ?_
                                refine J_seq ?_
                                refine J_region ?_
                                refine JL_q (wants_none rfl) rfl (ex_move rfl) ?_
                                refine JL_q (wants_none rfl) rfl (ex_fieldAddr fi_170_2 rfl rfl) ?_
                                refine JL_sk (wants_none rfl) (sk_store_bx' 15 ti_3 rfl rfl (fun w hh => cv_int) rfl rfl rfl rfl) ?_
                                refine JL_nil ?_
                                refine N_then ?_
                                refine J_seq ?_
                                refine J_region ?_
                                refine JL_q (wants_none rfl) rfl (ex_move rfl) ?_
                                refine JL_q (wants_none rfl) rfl (ex_fieldAddr fi_170_3 rfl rfl) ?_
                                refine JL_sk (wants_none rfl) (sk_store_bx' 15 ti_2 rfl rfl (fun w hh => cv_int) rfl rfl rfl rfl) ?_
                                refine JL_nil ?_
                                refine N_then ?_
                                refine J_seq ?_
                                refine J_seq ?_
                                refine J_region ?_
                                refine JL_q (wants_none rfl) rfl (ex_fieldAddr fi_170_0 rfl rfl) ?_
                                refine JL_q (wants_none rfl) rfl (ex_load_bx 15 ti_27 rfl rfl rfl) ?_
                                refine JL_q (wants_none rfl) rfl (ex_len_rd 0 Try.underlying27 rfl rfl) ?_
                                refine JL_q (wants_none rfl) rfl (ex_eql rfl rfl) ?_
                                refine JL_nil ?_
                                refine N_then ?_
                                refine J_if rfl (fun h256 => ?_) (fun h256 => ?_)
                                · refine J_seq ?_
                                  refine J_region ?_
                                  refine JL_q (wants_none rfl) rfl (ex_move rfl) ?_
                                  refine JL_bnd fun r257 hr258 => ?_
                                  refine JL_call (wants_none rfl) rfl Try.call142 rfl (Ca_self (fun _ => rfl) fun w hh => c_spec_l32Back _ w (fun _ hk => hk.elim) _ _ (hh.ow0 14 rfl) _ _ (hh.bx_pa 15 rfl (Gl32Rest.rdmk (hh.rd0 0 rfl) (Rd.mk_bool _ _ _) (Rd.mk_int _ _ _) (Rd.mk_int _ _ _)) rfl) _ hr258) (fun x259 => ?_)
                                  refine JL_q (wants_none rfl) rfl (ex_extract rfl rfl) ?_
                                  refine JL_q (wants_none rfl) rfl (ex_extract rfl rfl) ?_
                                  refine JL_q (wants_none rfl) rfl (ex_assign rfl) ?_
                                  refine JL_q (wants_none rfl) rfl (ex_assign rfl) ?_
                                  refine JL_nil ?_
                                  refine N_then ?_
                                  refine J_ret ?_
                                  refine N_then_ret ?_
                                  refine N_block_ret ?_
                                  refine N_then_ret ?_
                                  refine N_round_ret ?_
                                  refine N_block_ret ?_
                                  refine N_then_ret ?_
                                  refine N_round_reti ?_
                                  refine N_then_ret ?_
                                  refine N_inl2 hK29 rfl (rv_tmp rfl) (rv_tmp rfl) ?_
                                  refine JL_q (wants_none rfl) rfl (ex_extract rfl rfl) ?_
                                  refine JL_q (wants_none rfl) rfl (ex_extract rfl rfl) ?_
                                  refine JL_q (wants_none rfl) rfl (ex_assign rfl) ?_
                                  refine JL_q (wants_none rfl) rfl (ex_assign rfl) ?_
                                  refine JL_nil ?_
                                  refine N_then ?_
                                  refine J_ret ?_
                                  refine N_inl2 hK19 rfl (rv_tmp rfl) (rv_tmp rfl) ?_
                                  refine JL_q (wants_none rfl) rfl (ex_move rfl) ?_
                                  refine JL_q (wants_none rfl) rfl (ex_extract rfl rfl) ?_
                                  refine JL_q (wants_none rfl) rfl (ex_extract rfl rfl) ?_
                                  refine JL_q (wants_none rfl) rfl (ex_assign rfl) ?_
                                  refine JL_q (wants_none rfl) rfl (ex_assign rfl) ?_
                                  refine JL_nil ?_
                                  refine N_then ?_
                                  refine J_seq ?_
                                  refine J_seq ?_
                                  refine J_region ?_
                                  refine JL_q (wants_none rfl) rfl (ex_move rfl) ?_
                                  refine JL_q (wants_none rfl) rfl (ex_eql rfl rfl) ?_
                                  refine JL_q (wants_none rfl) rfl (ex_move rfl) ?_
                                  refine JL_cond (fun h260 => ?_) (fun h260 => ?_)
                                  · refine JL_q (wants_some rfl rfl rfl h260) rfl (ex_move rfl) ?_
                                    refine JL_bnd fun r261 hr262 => ?_
                                    refine JL_callT (wants_some rfl rfl rfl h260) rfl Try.call38 rfl (CaT_of [12] [0, 1, 2, 3, 4, 5, 6, 7, 8, 9, 10, 11, 13, 14, 15, 16] rfl rfl (fun _ => rfl) fun w hh => c_spec_l00Src_one w x3_1 (⟨r1.1, s10.1, s10.2.1⟩ : Gl00Src) x3_0 _ rfl (hh.handed [12] rfl rfl rfl rfl) (hh.apart [12] rfl (hh.rd 10 rfl)) _ _ hr262) (fun _ => ?_)
                                    refine JL_q (wants_none rfl) rfl (ex_pick_true rfl h260 rfl) ?_
                                    refine JL_nil ?_
                                    refine N_then ?_
                                    refine J_if rfl (fun h263 => ?_) (fun h263 => ?_)
                                    · refine J_region ?_
                                      refine JL_q (wants_none rfl) rfl (ex_move rfl) ?_
                                      refine JL_q (wants_none rfl) rfl (ex_assign rfl) ?_
                                      refine JL_nil ?_
                                      refine N_then ?_
                                      refine J_seq ?_
                                      refine J_region ?_
                                      refine JL_q (wants_none rfl) rfl (ex_move rfl) ?_
                                      refine JL_q (wants_none rfl) rfl (ex_move rfl) ?_
                                      refine JL_q (wants_none rfl) rfl (ex_assign rfl) ?_
                                      refine JL_q (wants_none rfl) rfl (ex_assign rfl) ?_
                                      refine JL_nil ?_
                                      refine N_then ?_
                                      refine J_ret ?_
                                      exact N_ret2 rfl (rv_tmp rfl) (rv_tmp rfl) (fun w hh => ⟨((.slice (some ⟨b48, 0, none⟩) r4.1.length cap49), x6_1, x259), rfl, hh.sel [13, 1] rfl⟩)
                                    · refine J_skip ?_
                                      refine N_then ?_
                                      refine J_seq ?_
                                      refine J_region ?_
                                      refine JL_q (wants_none rfl) rfl (ex_move rfl) ?_
                                      refine JL_q (wants_none rfl) rfl (ex_move rfl) ?_
                                      refine JL_q (wants_none rfl) rfl (ex_assign rfl) ?_
                                      refine JL_q (wants_none rfl) rfl (ex_assign rfl) ?_
                                      refine JL_nil ?_
                                      refine N_then ?_
                                      refine J_ret ?_
                                      exact N_ret2 rfl (rv_tmp rfl) (rv_tmp rfl) (fun w hh => ⟨((.slice (some ⟨b48, 0, none⟩) r4.1.length cap49), x6_1, g11), rfl, hh.sel [13, 14] rfl⟩)
                                  · refine JL_passed rfl rfl rfl h260 ?_
                                    refine JL_passed rfl rfl rfl h260 ?_
                                    refine JL_q (wants_none rfl) rfl (ex_pick_false rfl h260 rfl) ?_
                                    refine JL_nil ?_
                                    refine N_then ?_
                                    refine J_if_false rfl rfl ?_
                                    refine J_skip ?_
                                    refine N_then ?_
                                    refine J_seq ?_
                                    refine J_region ?_
                                    refine JL_q (wants_none rfl) rfl (ex_move rfl) ?_
                                    refine JL_q (wants_none rfl) rfl (ex_move rfl) ?_
                                    refine JL_q (wants_none rfl) rfl (ex_assign rfl) ?_
                                    refine JL_q (wants_none rfl) rfl (ex_assign rfl) ?_
                                    refine JL_nil ?_
                                    refine N_then ?_
                                    refine J_ret ?_
                                    exact N_ret2 rfl (rv_tmp rfl) (rv_tmp rfl) (fun w hh => ⟨((.slice (some ⟨b48, 0, none⟩) r4.1.length cap49), x6_1, g11), rfl, hh.sel [13, 14] rfl⟩)
                                · refine J_skip ?_
                                  refine N_then ?_
                                  refine J_seq ?_
                                  refine J_seq ?_
                                  refine J_region ?_
                                  refine JL_q (wants_none rfl) rfl (ex_fieldAddr fi_170_0 rfl rfl) ?_
                                  refine JL_q (wants_none rfl) rfl (ex_load_bx 15 ti_27 rfl rfl rfl) ?_
                                  refine JL_q (wants_none rfl) rfl (ex_len_rd 0 Try.underlying27 rfl rfl) ?_
                                  refine JL_q (wants_none rfl) rfl (ex_gtr rfl rfl) ?_
                                  refine JL_nil ?_
                                  refine N_then ?_
                                  refine J_if rfl (fun h264 => ?_) (fun h264 => ?_)
                                  · refine J_seq ?_
                                    refine J_region ?_
                                    refine JL_q (wants_none rfl) rfl (ex_assign rfl) ?_
                                    refine JL_nil ?_
                                    refine N_then ?_
                                    refine J_exit ?_
                                    refine N_then_exit ?_
                                    refine N_block_exit ?_
                                    refine N_then ?_
                                    refine J_region ?_
                                    refine JL_q (wants_none rfl) rfl (ex_move rfl) ?_
                                    refine JL_q (wants_none rfl) rfl (ex_add rfl rfl) ?_
                                    refine JL_q (wants_none rfl) rfl (ex_assign rfl) ?_
                                    refine JL_nil ?_
                                    exact N_next' (.slice (some ⟨b44, 0, none⟩) s35.1.length cap45) ⟨rfl, rfl, rfl, rfl, rfl, rfl, rfl, trivial⟩ [12, 14, 9, 10, 11, 13] rfl rfl
                                  · refine J_skip ?_
                                    refine N_then ?_
                                    refine J_seq ?_
                                    refine J_seq ?_
                                    refine J_region ?_
                                    refine JL_q (wants_none rfl) rfl (ex_move rfl) ?_
                                    refine JL_bnd fun r265 hr266 => ?_
                                    refine JL_call (wants_none rfl) rfl Try.call143 rfl (Ca_of0 fun w hh => c_spec_l32Known _ w (fun _ hk => hk.elim) _ _ (hh.ow0 14 rfl) _ _ (hh.bx_pa 15 rfl (Gl32Rest.rdmk (hh.rd0 0 rfl) (Rd.mk_bool _ _ _) (Rd.mk_int _ _ _) (Rd.mk_int _ _ _)) rfl) _ hr266) (fun _ => ?_)
                                    refine JL_nil ?_
                                    refine N_then ?_
                                    refine J_if rfl (fun h267 => ?_) (fun h267 => ?_)
                                    · refine J_exit ?_
                                      refine N_then_exit ?_
                                      refine N_block_exit ?_
                                      refine N_then ?_
                                      refine J_region ?_
                                      refine JL_q (wants_none rfl) rfl (ex_move rfl) ?_
                                      refine JL_q (wants_none rfl) rfl (ex_add rfl rfl) ?_
                                      refine JL_q (wants_none rfl) rfl (ex_assign rfl) ?_
                                      refine JL_nil ?_
                                      exact N_next' (.slice (some ⟨b44, 0, none⟩) s35.1.length cap45) ⟨rfl, rfl, rfl, rfl, rfl, rfl, rfl, trivial⟩ [12, 14, 9, 10, 11, 13] rfl rfl
                                    · refine J_skip ?_
                                      refine N_then ?_
                                      refine J_seq ?_
                                      refine J_region ?_
                                      refine JL_q (wants_none rfl) rfl (ex_move rfl) ?_
                                      refine JL_q (wants_none rfl) rfl (ex_load_bx_agg 15 ti_170 rfl rfl rfl rfl) ?_
                                      refine JL_st (wants_none rfl) rfl (st_buildSlice (vs := [.agg #[v255, .bool true, .int .i64 s31.2.2, .int .i64 s35.2.2]]) ([(⟨z253, true, s31.2.2, s35.2.2⟩ : Gl32Rest)] : List Gl32Rest) Try.underlying171 ti_170 zi_170 rfl rfl rfl (fun w hh => ⟨(Gl32Rest.rdmk (hh.rd 0 rfl) (Rd.mk_bool _ _ _) (Rd.mk_int _ _ _) (Rd.mk_int _ _ _)), trivial⟩)) (fun b268 => ?_)
                                      refine JL_bnd fun z269 hz270 => ?_
                                      refine JL_st (wants_none rfl) rfl (st_append 15 Try.underlying171 ti_170 zi_170 rfl bi_170 rfl rfl rfl rfl (fun w hh => hh.src_ow 0 rfl) hz270) (fun v271 => ?_)
                                      refine JL_q (wants_none rfl) rfl (ex_assign rfl) ?_
                                      refine JL_nil ?_
                                      refine N_then ?_
                                      refine J_seq ?_
                                      refine J_region ?_
                                      refine JL_q (wants_none rfl) rfl (ex_move rfl) ?_
                                      refine JL_q (wants_none rfl) rfl (ex_len_ow 15 Try.underlying171 rfl rfl) ?_
                                      refine JL_q (wants_none rfl) rfl (ex_gtr rfl rfl) ?_
                                      refine JL_nil ?_
                                      refine N_then ?_
                                      refine J_if rfl (fun h272 => ?_) (fun h272 => ?_)
                                      · refine J_seq ?_
                                        refine J_region ?_
                                        refine JL_q (wants_none rfl) rfl (ex_assign rfl) ?_
                                        refine JL_q (wants_none rfl) rfl (ex_assign rfl) ?_
                                        refine JL_nil ?_
                                        refine N_then ?_
                                        refine J_ret ?_
                                        refine N_block_ret ?_
                                        refine N_then_ret ?_
                                        refine N_round_ret ?_
                                        refine N_block_ret ?_
                                        refine N_then_ret ?_
                                        refine N_round_reti ?_
                                        refine N_then_ret ?_
                                        refine N_inl2 hK29 rfl (rv_tmp rfl) (rv_tmp rfl) ?_
                                        refine JL_q (wants_none rfl) rfl (ex_extract rfl rfl) ?_
                                        refine JL_q (wants_none rfl) rfl (ex_extract rfl rfl) ?_
                                        refine JL_q (wants_none rfl) rfl (ex_assign rfl) ?_
                                        refine JL_q (wants_none rfl) rfl (ex_assign rfl) ?_
                                        refine JL_nil ?_
                                        refine N_then ?_
                                        refine J_ret ?_
                                        refine N_inl2 hK19 rfl (rv_tmp rfl) (rv_tmp rfl) ?_
                                        refine JL_q (wants_none rfl) rfl (ex_move rfl) ?_
                                        refine JL_q (wants_none rfl) rfl (ex_extract rfl rfl) ?_
                                        refine JL_q (wants_none rfl) rfl (ex_extract rfl rfl) ?_
                                        refine JL_q (wants_none rfl) rfl (ex_assign rfl) ?_
                                        refine JL_q (wants_none rfl) rfl (ex_assign rfl) ?_
                                        refine JL_nil ?_
                                        refine N_then ?_
                                        refine J_seq ?_
                                        refine J_seq ?_
                                        refine J_region ?_
                                        refine JL_q (wants_none rfl) rfl (ex_move rfl) ?_
                                        refine JL_q (wants_none rfl) rfl (ex_eql rfl rfl) ?_
                                        refine JL_q (wants_none rfl) rfl (ex_move rfl) ?_
                                        refine JL_passed rfl rfl rfl (by decide) ?_
                                        refine JL_passed rfl rfl rfl (by decide) ?_
                                        refine JL_q (wants_none rfl) rfl (ex_pick_false rfl (by decide) rfl) ?_
                                        refine JL_nil ?_
                                        refine N_then ?_
                                        refine J_if_false rfl rfl ?_
                                        refine J_skip ?_
                                        refine N_then ?_
                                        refine J_seq ?_
                                        refine J_region ?_
                                        refine JL_q (wants_none rfl) rfl (ex_move rfl) ?_
                                        refine JL_q (wants_none rfl) rfl (ex_move rfl) ?_
                                        refine JL_q (wants_none rfl) rfl (ex_assign rfl) ?_
                                        refine JL_q (wants_none rfl) rfl (ex_assign rfl) ?_
                                        refine JL_nil ?_
                                        refine N_then ?_
                                        refine J_ret ?_
                                        exact N_ret2 rfl (rv_tmp rfl) (rv_tmp rfl) (fun w hh => ⟨((.slice (some ⟨b48, 0, none⟩) r4.1.length cap49), x6_1, g11), rfl, hh.sel [13, 14] rfl⟩)
                                      · refine J_skip ?_
                                        refine N_block ?_
                                        refine N_then ?_
                                        refine J_region ?_
                                        refine JL_q (wants_none rfl) rfl (ex_move rfl) ?_
                                        refine JL_q (wants_none rfl) rfl (ex_add rfl rfl) ?_
                                        refine JL_q (wants_none rfl) rfl (ex_assign rfl) ?_
                                        refine JL_nil ?_
                                        exact N_next' v271 ⟨rfl, rfl, rfl, rfl, rfl, rfl, rfl, trivial⟩ [13, 15, 10, 11, 12, 14] rfl rfl
                              · refine J_skip ?_
                                refine N_then ?_
                                refine J_seq ?_
                                refine J_region ?_
                                refine JL_q (wants_none rfl) rfl (ex_move rfl) ?_
                                refine JL_q (wants_none rfl) rfl (ex_move rfl) ?_
                                refine JL_bnd fun z273 hz274 => ?_
                                refine JL_st (wants_none rfl) rfl (st_slice 7 Try.underlying27 ti_2 rfl rfl rfl rfl hz274) (fun v275 => ?_)
                                refine JL_q (wants_none rfl) rfl (ex_build si_170 rfl (.cons fi_170_0 rfl rfl .nil) (fun w hh => ⟨(hh.cv 0 rfl), trivial⟩)) ?_
                                refine JL_sk (wants_none rfl) (sk_store_bx' 6 ti_170 rfl rfl (fun w hh => (cv_aggs ⟨(hh.cv 0 rfl), cv_bool, cv_int, cv_int, trivial⟩)) rfl rfl rfl rfl) ?_
                                refine JL_q (wants_none rfl) rfl (ex_assign rfl) ?_
                                refine JL_nil ?_
                                refine N_then ?_
                                refine J_ret ?_
                                refine N_inlD2 hK175 rfl (rv_cell 6 rfl rfl ti_170 rfl) (rv_tmp rfl) 5 [11] rfl rfl ?_
                                refine JD_take (i := 7) hp50 rfl (by kernel_rfl) (by kernel_rfl) (by kernel_rfl) (wants_none rfl) rfl (ex_move rfl) ?_
                                refine JD_take (i := 8) hp50 rfl (by kernel_rfl) (by kernel_rfl) (by kernel_rfl) (wants_none rfl) rfl (ex_extract rfl rfl) ?_
                                refine JD_take (i := 9) hp50 rfl (by kernel_rfl) (by kernel_rfl) (by kernel_rfl) (wants_none rfl) rfl (ex_extract rfl rfl) ?_
                                refine JD_one (i := 11) (by kernel_rfl) ?_
                                refine JO_sk2 15 [0, 1, 5] [2, 3, 4] [9, 10, 11] rfl rfl rfl rfl rfl rfl (wants_none rfl) (sk_store_bx' 15 ti_170 rfl rfl (fun w hh => (cv_aggs ⟨(hh.cv 0 rfl), cv_bool, cv_int, cv_int, trivial⟩)) rfl rfl rfl rfl) (fun _ hk => hk) ?_
                                refine JD_take (i := 12) hp50 rfl (by kernel_rfl) (by kernel_rfl) (by kernel_rfl) (wants_none rfl) rfl (ex_assign rfl) ?_
                                refine JD_done (by kernel_rfl) ?_
                                refine N_then ?_
                                refine J_seq ?_
                                refine J_seq ?_
                                refine J_region ?_
                                refine JL_q (wants_none rfl) rfl (ex_move rfl) ?_
                                refine JL_q (wants_none rfl) rfl (ex_not rfl) ?_
                                refine JL_nil ?_
                                refine N_then ?_
                                refine J_if_false rfl rfl ?_
                                refine J_skip ?_
                                refine N_then ?_
                                refine J_seq ?_
                                refine J_region ?_
                                refine JL_q (wants_none rfl) rfl (ex_move rfl) ?_
                                refine JL_q (wants_none rfl) rfl (ex_fieldAddr fi_170_2 rfl rfl) ?_
                                refine JL_sk (wants_none rfl) (sk_store_bx' 15 ti_3 rfl rfl (fun w hh => cv_int) rfl rfl rfl rfl) ?_
                                refine JL_nil ?_
                                refine N_then ?_
                                refine J_seq ?_
                                refine J_region ?_
                                refine JL_q (wants_none rfl) rfl (ex_move rfl) ?_
                                refine JL_q (wants_none rfl) rfl (ex_fieldAddr fi_170_3 rfl rfl) ?_
                                refine JL_sk (wants_none rfl) (sk_store_bx' 15 ti_2 rfl rfl (fun w hh => cv_int) rfl rfl rfl rfl) ?_
                                refine JL_nil ?_
                                refine N_then ?_
                                refine J_seq ?_
                                refine J_seq ?_
                                refine J_region ?_
                                refine JL_q (wants_none rfl) rfl (ex_fieldAddr fi_170_0 rfl rfl) ?_
                                refine JL_q (wants_none rfl) rfl (ex_load_bx 15 ti_27 rfl rfl rfl) ?_
                                refine JL_q (wants_none rfl) rfl (ex_len_rd 0 Try.underlying27 rfl rfl) ?_
                                refine JL_q (wants_none rfl) rfl (ex_eql rfl rfl) ?_
                                refine JL_nil ?_
                                refine N_then ?_
                                refine J_if rfl (fun h276 => ?_) (fun h276 => ?_)
                                · refine J_seq ?_
                                  refine J_region ?_
                                  refine JL_q (wants_none rfl) rfl (ex_move rfl) ?_
                                  refine JL_bnd fun r277 hr278 => ?_
                                  refine JL_call (wants_none rfl) rfl Try.call142 rfl (Ca_self (fun _ => rfl) fun w hh => c_spec_l32Back _ w (fun _ hk => hk.elim) _ _ (hh.ow0 14 rfl) _ _ (hh.bx_pa 15 rfl (Gl32Rest.rdmk (hh.rd0 0 rfl) (Rd.mk_bool _ _ _) (Rd.mk_int _ _ _) (Rd.mk_int _ _ _)) rfl) _ hr278) (fun x279 => ?_)
                                  refine JL_q (wants_none rfl) rfl (ex_extract rfl rfl) ?_
                                  refine JL_q (wants_none rfl) rfl (ex_extract rfl rfl) ?_
                                  refine JL_q (wants_none rfl) rfl (ex_assign rfl) ?_
                                  refine JL_q (wants_none rfl) rfl (ex_assign rfl) ?_
                                  refine JL_nil ?_
                                  refine N_then ?_
                                  refine J_ret ?_
                                  refine N_then_ret ?_
                                  refine N_block_ret ?_
                                  refine N_then_ret ?_
                                  refine N_round_ret ?_
                                  refine N_block_ret ?_
                                  refine N_then_ret ?_
                                  refine N_round_reti ?_
                                  refine N_then_ret ?_
                                  refine N_inl2 hK29 rfl (rv_tmp rfl) (rv_tmp rfl) ?_
                                  refine JL_q (wants_none rfl) rfl (ex_extract rfl rfl) ?_
                                  refine JL_q (wants_none rfl) rfl (ex_extract rfl rfl) ?_
                                  refine JL_q (wants_none rfl) rfl (ex_assign rfl) ?_
                                  refine JL_q (wants_none rfl) rfl (ex_assign rfl) ?_
                                  refine JL_nil ?_
                                  refine N_then ?_
                                  refine J_ret ?_
                                  refine N_inl2 hK19 rfl (rv_tmp rfl) (rv_tmp rfl) ?_
                                  refine JL_q (wants_none rfl) rfl (ex_move rfl) ?_
                                  refine JL_q (wants_none rfl) rfl (ex_extract rfl rfl) ?_
                                  refine JL_q (wants_none rfl) rfl (ex_extract rfl rfl) ?_
                                  refine JL_q (wants_none rfl) rfl (ex_assign rfl) ?_
                                  refine JL_q (wants_none rfl) rfl (ex_assign rfl) ?_
                                  refine JL_nil ?_
                                  refine N_then ?_
                                  refine J_seq ?_
                                  refine J_seq ?_
                                  refine J_region ?_
                                  refine JL_q (wants_none rfl) rfl (ex_move rfl) ?_
                                  refine JL_q (wants_none rfl) rfl (ex_eql rfl rfl) ?_
                                  refine JL_q (wants_none rfl) rfl (ex_move rfl) ?_
                                  refine JL_cond (fun h280 => ?_) (fun h280 => ?_)
                                  · refine JL_q (wants_some rfl rfl rfl h280) rfl (ex_move rfl) ?_
                                    refine JL_bnd fun r281 hr282 => ?_
                                    refine JL_callT (wants_some rfl rfl rfl h280) rfl Try.call38 rfl (CaT_of [12] [0, 1, 2, 3, 4, 5, 6, 7, 8, 9, 10, 11, 13, 14, 15, 16] rfl rfl (fun _ => rfl) fun w hh => c_spec_l00Src_one w x3_1 (⟨r1.1, s10.1, s10.2.1⟩ : Gl00Src) x3_0 _ rfl (hh.handed [12] rfl rfl rfl rfl) (hh.apart [12] rfl (hh.rd 10 rfl)) _ _ hr282) (fun _ => ?_)
                                    refine JL_q (wants_none rfl) rfl (ex_pick_true rfl h280 rfl) ?_
                                    refine JL_nil ?_
                                    refine N_then ?_
                                    refine J_if rfl (fun h283 => ?_) (fun h283 => ?_)
                                    · refine J_region ?_
                                      refine JL_q (wants_none rfl) rfl (ex_move rfl) ?_
                                      refine JL_q (wants_none rfl) rfl (ex_assign rfl) ?_
                                      refine JL_nil ?_
                                      refine N_then ?_
                                      refine J_seq ?_
                                      refine J_region ?_
                                      refine JL_q (wants_none rfl) rfl (ex_move rfl) ?_
                                      refine JL_q (wants_none rfl) rfl (ex_move rfl) ?_
                                      refine JL_q (wants_none rfl) rfl (ex_assign rfl) ?_
                                      refine JL_q (wants_none rfl) rfl (ex_assign rfl) ?_
                                      refine JL_nil ?_
                                      refine N_then ?_
                                      refine J_ret ?_
                                      exact N_ret2 rfl (rv_tmp rfl) (rv_tmp rfl) (fun w hh => ⟨((.slice (some ⟨b48, 0, none⟩) r4.1.length cap49), x6_1, x279), rfl, hh.sel [13, 1] rfl⟩)
                                    · refine J_skip ?_
                                      refine N_then ?_
                                      refine J_seq ?_
                                      refine J_region ?_
                                      refine JL_q (wants_none rfl) rfl (ex_move rfl) ?_
                                      refine JL_q (wants_none rfl) rfl (ex_move rfl) ?_
                                      refine JL_q (wants_none rfl) rfl (ex_assign rfl) ?_
                                      refine JL_q (wants_none rfl) rfl (ex_assign rfl) ?_
                                      refine JL_nil ?_
                                      refine N_then ?_
                                      refine J_ret ?_
                                      exact N_ret2 rfl (rv_tmp rfl) (rv_tmp rfl) (fun w hh => ⟨((.slice (some ⟨b48, 0, none⟩) r4.1.length cap49), x6_1, g11), rfl, hh.sel [13, 14] rfl⟩)
                                  · refine JL_passed rfl rfl rfl h280 ?_
                                    refine JL_passed rfl rfl rfl h280 ?_
                                    refine JL_q (wants_none rfl) rfl (ex_pick_false rfl h280 rfl) ?_
                                    refine JL_nil ?_
                                    refine N_then ?_
                                    refine J_if_false rfl rfl ?_
                                    refine J_skip ?_
                                    refine N_then ?_
                                    refine J_seq ?_
                                    refine J_region ?_
                                    refine JL_q (wants_none rfl) rfl (ex_move rfl) ?_
                                    refine JL_q (wants_none rfl) rfl (ex_move rfl) ?_
                                    refine JL_q (wants_none rfl) rfl (ex_assign rfl) ?_
                                    refine JL_q (wants_none rfl) rfl (ex_assign rfl) ?_
                                    refine JL_nil ?_
                                    refine N_then ?_
                                    refine J_ret ?_
                                    exact N_ret2 rfl (rv_tmp rfl) (rv_tmp rfl) (fun w hh => ⟨((.slice (some ⟨b48, 0, none⟩) r4.1.length cap49), x6_1, g11), rfl, hh.sel [13, 14] rfl⟩)
                                · refine J_skip ?_
                                  refine N_then ?_
                                  refine J_seq ?_
                                  refine J_seq ?_
                                  refine J_region ?_
                                  refine JL_q (wants_none rfl) rfl (ex_fieldAddr fi_170_0 rfl rfl) ?_
                                  refine JL_q (wants_none rfl) rfl (ex_load_bx 15 ti_27 rfl rfl rfl) ?_
                                  refine JL_q (wants_none rfl) rfl (ex_len_rd 0 Try.underlying27 rfl rfl) ?_
                                  refine JL_q (wants_none rfl) rfl (ex_gtr rfl rfl) ?_
                                  refine JL_nil ?_
                                  refine N_then ?_
                                  refine J_if rfl (fun h284 => ?_) (fun h284 => ?_)
                                  · refine J_seq ?_
                                    refine J_region ?_
                                    refine JL_q (wants_none rfl) rfl (ex_assign rfl) ?_
                                    refine JL_nil ?_
                                    refine N_then ?_
                                    refine J_exit ?_
                                    refine N_then_exit ?_
                                    refine N_block_exit ?_
                                    refine N_then ?_
                                    refine J_region ?_
                                    refine JL_q (wants_none rfl) rfl (ex_move rfl) ?_
                                    refine JL_q (wants_none rfl) rfl (ex_add rfl rfl) ?_
                                    refine JL_q (wants_none rfl) rfl (ex_assign rfl) ?_
                                    refine JL_nil ?_
                                    exact N_next' (.slice (some ⟨b44, 0, none⟩) s35.1.length cap45) ⟨rfl, rfl, rfl, rfl, rfl, rfl, rfl, trivial⟩ [12, 14, 9, 10, 11, 13] rfl rfl
                                  · refine J_skip ?_
                                    refine N_then ?_
                                    refine J_seq ?_
                                    refine J_seq ?_
                                    refine J_region ?_
                                    refine JL_q (wants_none rfl) rfl (ex_move rfl) ?_
                                    refine JL_bnd fun r285 hr286 => ?_
                                    refine JL_call (wants_none rfl) rfl Try.call143 rfl (Ca_of0 fun w hh => c_spec_l32Known _ w (fun _ hk => hk.elim) _ _ (hh.ow0 14 rfl) _ _ (hh.bx_pa 15 rfl (Gl32Rest.rdmk (hh.rd0 0 rfl) (Rd.mk_bool _ _ _) (Rd.mk_int _ _ _) (Rd.mk_int _ _ _)) rfl) _ hr286) (fun _ => ?_)
                                    refine JL_nil ?_
                                    refine N_then ?_
                                    refine J_if rfl (fun h287 => ?_) (fun h287 => ?_)
                                    · refine J_exit ?_
                                      refine N_then_exit ?_
                                      refine N_block_exit ?_
                                      refine N_then ?_
                                      refine J_region ?_
                                      refine JL_q (wants_none rfl) rfl (ex_move rfl) ?_
                                      refine JL_q (wants_none rfl) rfl (ex_add rfl rfl) ?_
                                      refine JL_q (wants_none rfl) rfl (ex_assign rfl) ?_
                                      refine JL_nil ?_
                                      exact N_next' (.slice (some ⟨b44, 0, none⟩) s35.1.length cap45) ⟨rfl, rfl, rfl, rfl, rfl, rfl, rfl, trivial⟩ [12, 14, 9, 10, 11, 13] rfl rfl
                                    · refine J_skip ?_
                                      refine N_then ?_
                                      refine J_seq ?_
                                      refine J_region ?_
                                      refine JL_q (wants_none rfl) rfl (ex_move rfl) ?_
                                      refine JL_q (wants_none rfl) rfl (ex_load_bx_agg 15 ti_170 rfl rfl rfl rfl) ?_
                                      refine JL_st (wants_none rfl) rfl (st_buildSlice (vs := [.agg #[v275, .bool false, .int .i64 s31.2.2, .int .i64 s35.2.2]]) ([(⟨z273, false, s31.2.2, s35.2.2⟩ : Gl32Rest)] : List Gl32Rest) Try.underlying171 ti_170 zi_170 rfl rfl rfl (fun w hh => ⟨(Gl32Rest.rdmk (hh.rd 0 rfl) (Rd.mk_bool _ _ _) (Rd.mk_int _ _ _) (Rd.mk_int _ _ _)), trivial⟩)) (fun b288 => ?_)
                                      refine JL_bnd fun z289 hz290 => ?_
                                      refine JL_st (wants_none rfl) rfl (st_append 15 Try.underlying171 ti_170 zi_170 rfl bi_170 rfl rfl rfl rfl (fun w hh => hh.src_ow 0 rfl) hz290) (fun v291 => ?_)
                                      refine JL_q (wants_none rfl) rfl (ex_assign rfl) ?_
                                      refine JL_nil ?_
                                      refine N_then ?_
                                      refine J_seq ?_
                                      refine J_region ?_
                                      refine JL_q (wants_none rfl) rfl (ex_move rfl) ?_
                                      refine JL_q (wants_none rfl) rfl (ex_len_ow 15 Try.underlying171 rfl rfl) ?_
                                      refine JL_q (wants_none rfl) rfl (ex_gtr rfl rfl) ?_
                                      refine JL_nil ?_
                                      refine N_then ?_
                                      refine J_if rfl (fun h292 => ?_) (fun h292 => ?_)
                                      · refine J_seq ?_
                                        refine J_region ?_
                                        refine JL_q (wants_none rfl) rfl (ex_assign rfl) ?_
                                        refine JL_q (wants_none rfl) rfl (ex_assign rfl) ?_
                                        refine JL_nil ?_
                                        refine N_then ?_
                                        refine J_ret ?_
                                        refine N_block_ret ?_
                                        refine N_then_ret ?_
                                        refine N_round_ret ?_
                                        refine N_block_ret ?_
                                        refine N_then_ret ?_
                                        refine N_round_reti ?_
                                        refine N_then_ret ?_
                                        refine N_inl2 hK29 rfl (rv_tmp rfl) (rv_tmp rfl) ?_
                                        refine JL_q (wants_none rfl) rfl (ex_extract rfl rfl) ?_
                                        refine JL_q (wants_none rfl) rfl (ex_extract rfl rfl) ?_
                                        refine JL_q (wants_none rfl) rfl (ex_assign rfl) ?_
                                        refine JL_q (wants_none rfl) rfl (ex_assign rfl) ?_
                                        refine JL_nil ?_
                                        refine N_then ?_
                                        refine J_ret ?_
                                        refine N_inl2 hK19 rfl (rv_tmp rfl) (rv_tmp rfl) ?_
                                        refine JL_q (wants_none rfl) rfl (ex_move rfl) ?_
                                        refine JL_q (wants_none rfl) rfl (ex_extract rfl rfl) ?_
                                        refine JL_q (wants_none rfl) rfl (ex_extract rfl rfl) ?_
                                        refine JL_q (wants_none rfl) rfl (ex_assign rfl) ?_
                                        refine JL_q (wants_none rfl) rfl (ex_assign rfl) ?_
                                        refine JL_nil ?_
                                        refine N_then ?_
                                        refine J_seq ?_
                                        refine J_seq ?_
                                        refine J_region ?_
                                        refine JL_q (wants_none rfl) rfl (ex_move rfl) ?_
                                        refine JL_q (wants_none rfl) rfl (ex_eql rfl rfl) ?_
                                        refine JL_q (wants_none rfl) rfl (ex_move rfl) ?_
                                        refine JL_passed rfl rfl rfl (by decide) ?_
                                        refine JL_passed rfl rfl rfl (by decide) ?_
                                        refine JL_q (wants_none rfl) rfl (ex_pick_false rfl (by decide) rfl) ?_
                                        refine JL_nil ?_
                                        refine N_then ?_
                                        refine J_if_false rfl rfl ?_
                                        refine J_skip ?_
                                        refine N_then ?_
                                        refine J_seq ?_
                                        refine J_region ?_
                                        refine JL_q (wants_none rfl) rfl (ex_move rfl) ?_
                                        refine JL_q (wants_none rfl) rfl (ex_move rfl) ?_
                                        refine JL_q (wants_none rfl) rfl (ex_assign rfl) ?_
                                        refine JL_q (wants_none rfl) rfl (ex_assign rfl) ?_
                                        refine JL_nil ?_
                                        refine N_then ?_
                                        refine J_ret ?_
                                        exact N_ret2 rfl (rv_tmp rfl) (rv_tmp rfl) (fun w hh => ⟨((.slice (some ⟨b48, 0, none⟩) r4.1.length cap49), x6_1, g11), rfl, hh.sel [13, 14] rfl⟩)
                                      · refine J_skip ?_
                                        refine N_block ?_
                                        refine N_then ?_
                                        refine J_region ?_
                                        refine JL_q (wants_none rfl) rfl (ex_move rfl) ?_
                                        refine JL_q (wants_none rfl) rfl (ex_add rfl rfl) ?_
                                        refine JL_q (wants_none rfl) rfl (ex_assign rfl) ?_
                                        refine JL_nil ?_
                                        exact N_next' v291 ⟨rfl, rfl, rfl, rfl, rfl, rfl, rfl, trivial⟩ [13, 15, 10, 11, 12, 14] rfl rfl
                  · refine J_exit ?_
                    refine N_then_exit ?_
                    exact N_break' g36 ⟨rfl, rfl, rfl, rfl, rfl, rfl, rfl, trivial⟩ [0, 1, 2, 3, 4, 5] rfl rfl
                · refine N_block ?_
                  refine N_then ?_
                  refine J_region ?_
                  refine JL_q (wants_none rfl) rfl (ex_move rfl) ?_
                  refine JL_q (wants_none rfl) rfl (ex_add rfl rfl) ?_
                  refine JL_q (wants_none rfl) rfl (ex_assign rfl) ?_
                  refine JL_nil ?_
                  exact N_next' g36 ⟨rfl, rfl, rfl, rfl, rfl, rfl, trivial⟩ [0, 1, 2, 3, 4, 5] rfl rfl
            · refine J_exit ?_
              refine N_then_exit ?_
              exact N_break' g32 ⟨rfl, rfl, rfl, rfl, rfl, rfl, trivial⟩ [0, 1, 2, 3, 4, 5] rfl rfl
          · refine N_then ?_
            refine J_seq ?_
            refine J_seq ?_
            refine J_region ?_
            refine JL_q (wants_none rfl) rfl (ex_move rfl) ?_
            refine JL_q (wants_none rfl) rfl (ex_not rfl) ?_
            refine JL_nil ?_
            refine N_then ?_
            refine J_if rfl (fun h293 => ?_) (fun h293 => ?_)
            · refine J_seq ?_
              refine J_region ?_
              refine JL_q (wants_none rfl) rfl (ex_assign rfl) ?_
              refine JL_q (wants_none rfl) rfl (ex_assign rfl) ?_
              refine JL_nil ?_
              refine N_then ?_
              refine J_ret ?_
              refine N_then_ret ?_
              refine N_inl2 hK29 rfl (rv_tmp rfl) (rv_tmp rfl) ?_
              refine JL_q (wants_none rfl) rfl (ex_extract rfl rfl) ?_
              refine JL_q (wants_none rfl) rfl (ex_extract rfl rfl) ?_
              refine JL_q (wants_none rfl) rfl (ex_assign rfl) ?_
              refine JL_q (wants_none rfl) rfl (ex_assign rfl) ?_
              refine JL_nil ?_
              refine N_then ?_
              refine J_ret ?_
              refine N_inl2 hK19 rfl (rv_tmp rfl) (rv_tmp rfl) ?_
              refine JL_q (wants_none rfl) rfl (ex_move rfl) ?_
              refine JL_q (wants_none rfl) rfl (ex_extract rfl rfl) ?_
              refine JL_q (wants_none rfl) rfl (ex_extract rfl rfl) ?_
              refine JL_q (wants_none rfl) rfl (ex_assign rfl) ?_
              refine JL_q (wants_none rfl) rfl (ex_assign rfl) ?_
              refine JL_nil ?_
              refine N_then ?_
              refine J_seq ?_
              refine J_seq ?_
              refine J_region ?_
              refine JL_q (wants_none rfl) rfl (ex_move rfl) ?_
              refine JL_q (wants_none rfl) rfl (ex_eql rfl rfl) ?_
              refine JL_q (wants_none rfl) rfl (ex_move rfl) ?_
              refine JL_passed rfl rfl rfl (by decide) ?_
              refine JL_passed rfl rfl rfl (by decide) ?_
              refine JL_q (wants_none rfl) rfl (ex_pick_false rfl (by decide) rfl) ?_
              refine JL_nil ?_
              refine N_then ?_
              refine J_if_false rfl rfl ?_
              refine J_skip ?_
              refine N_then ?_
              refine J_seq ?_
              refine J_region ?_
              refine JL_q (wants_none rfl) rfl (ex_move rfl) ?_
              refine JL_q (wants_none rfl) rfl (ex_move rfl) ?_
              refine JL_q (wants_none rfl) rfl (ex_assign rfl) ?_
              refine JL_q (wants_none rfl) rfl (ex_assign rfl) ?_
              refine JL_nil ?_
              refine N_then ?_
              refine J_ret ?_
              exact N_ret2 rfl (rv_tmp rfl) (rv_tmp rfl) (fun w hh => ⟨(x6_0, x6_1, g11), rfl, hh.sel [0, 5] rfl⟩)
            · refine J_skip ?_
              refine N_then ?_
              refine J_seq ?_
              refine J_region ?_
              refine JL_q (wants_none rfl) rfl (ex_assign rfl) ?_
              refine JL_q (wants_none rfl) rfl (ex_assign rfl) ?_
              refine JL_nil ?_
              refine N_then ?_
              refine J_ret ?_
              refine N_inl2 hK29 rfl (rv_tmp rfl) (rv_tmp rfl) ?_
              refine JL_q (wants_none rfl) rfl (ex_extract rfl rfl) ?_
              refine JL_q (wants_none rfl) rfl (ex_extract rfl rfl) ?_
              refine JL_q (wants_none rfl) rfl (ex_assign rfl) ?_
              refine JL_q (wants_none rfl) rfl (ex_assign rfl) ?_
              refine JL_nil ?_
              refine N_then ?_
              refine J_ret ?_
              refine N_inl2 hK19 rfl (rv_tmp rfl) (rv_tmp rfl) ?_
              refine JL_q (wants_none rfl) rfl (ex_move rfl) ?_
              refine JL_q (wants_none rfl) rfl (ex_extract rfl rfl) ?_
              refine JL_q (wants_none rfl) rfl (ex_extract rfl rfl) ?_
              refine JL_q (wants_none rfl) rfl (ex_assign rfl) ?_
              refine JL_q (wants_none rfl) rfl (ex_assign rfl) ?_
              refine JL_nil ?_
              refine N_then ?_
              refine J_seq ?_
              refine J_seq ?_
              refine J_region ?_
              refine JL_q (wants_none rfl) rfl (ex_move rfl) ?_
              refine JL_q (wants_none rfl) rfl (ex_eql rfl rfl) ?_
              refine JL_q (wants_none rfl) rfl (ex_move rfl) ?_
              refine JL_passed rfl rfl rfl (by decide) ?_
              refine JL_passed rfl rfl rfl (by decide) ?_
              refine JL_q (wants_none rfl) rfl (ex_pick_false rfl (by decide) rfl) ?_
              refine JL_nil ?_
              refine N_then ?_
              refine J_if_false rfl rfl ?_
              refine J_skip ?_
              refine N_then ?_
              refine J_seq ?_
              refine J_region ?_
              refine JL_q (wants_none rfl) rfl (ex_move rfl) ?_
              refine JL_q (wants_none rfl) rfl (ex_move rfl) ?_
              refine JL_q (wants_none rfl) rfl (ex_assign rfl) ?_
              refine JL_q (wants_none rfl) rfl (ex_assign rfl) ?_
              refine JL_nil ?_
              refine N_then ?_
              refine J_ret ?_
              exact N_ret2 rfl (rv_tmp rfl) (rv_tmp rfl) (fun w hh => ⟨(x6_0, x6_1, g11), rfl, hh.sel [0, 5] rfl⟩)

end Go.Proofs.Ytgojoooilijiiaa
