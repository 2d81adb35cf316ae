/-
  Each function of the program computes what its plain function says: printed by program. No condition.
-/
import Derived.Test.YtgojoooilijiiaaFn
import Derived.Test.YtgojoooilijiiaaInf
import Derived.Test.YtgojoooilijiiaaCon1
import Derived.Test.YtgojoooilijiiaaCon2
import Derived.Test.YtgojoooilijiiaaCon4
namespace Go.Proofs.Ytgojoooilijiiaa
open Go Go.Tc Go.Fn
set_option linter.unusedVariables false

set_option maxHeartbeats 40000000 in
theorem c_laws_FnMatrices (A : Nat → Prop) (w : World) (hA : ∀ k, A k → k < w.heap.size) (v0_ : Value) (p0 : (List (Ik .u8))) (hp0 : Rd A w v0_ p0) (v1_ : Value) (p1 : (List (Ik .u8))) (hp1 : Rd A w v1_ p1) (r : Bool) (hr : F_laws_FnMatrices p0 p1 = some r) :
    Con Try.prog 4 [v0_, v1_] A w (fun x_ : Unit => .bool r) (fun x_ => []) := by
  refine Con_of (v := fun (r : Bool) (x_ : Unit) => .bool r) (fs := fun r x_ => []) Try.func4 rfl Try.ntmps4 rfl (((SH.start hA).start_rd rfl hp0).start_rd rfl hp1) rfl ?_ hr
  unfold F_laws_FnMatrices
  refine J_seq ?_
  refine J_region ?_
  refine JL_q (wants_none rfl) rfl (ex_assign rfl) ?_
  refine JL_nil ?_
  refine N_then ?_
  refine J_seq ?_
  refine J_seq ?_
  refine J_region ?_
  refine JL_q (wants_none rfl) rfl (ex_move rfl) ?_
  refine JL_q (wants_none rfl) rfl (ex_move rfl) ?_
  refine JL_bnd fun r1 hr2 => ?_
  refine JL_call (wants_none rfl) rfl Try.call6 rfl (Ca_of0 fun w hh => c_laws_r8Long _ w (fun _ hk => hk.elim) _ _ (hh.rd0 1 rfl) _ _ (hh.rd0 0 rfl) _ hr2) (fun _ => ?_)
  refine JL_nil ?_
  refine N_then ?_
  refine J_if rfl (fun h3 => ?_) (fun h3 => ?_)
  · refine J_seq ?_
    refine J_region ?_
    refine JL_q (wants_none rfl) rfl (ex_assign rfl) ?_
    refine JL_nil ?_
    refine N_then ?_
    refine J_ret ?_
    refine N_then_ret ?_
    exact N_ret1 rfl (rv_tmp rfl) (fun w hh => ⟨(), rfl, hh.sel [] rfl⟩)
  · refine J_skip ?_
    refine N_then ?_
    refine J_seq ?_
    refine J_region ?_
    refine JL_q (wants_none rfl) rfl (ex_move rfl) ?_
    refine JL_bnd fun r4 hr5 => ?_
    refine JL_call (wants_none rfl) rfl Try.call13 rfl (Ca_self (fun _ => rfl) fun w hh => c_spec_R8Dominoes _ w (fun _ hk => hk.elim) _ _ (hh.rd0 1 rfl) _ hr5) (fun x6 => ?_)
    obtain ⟨x6_0, x6_1, x6_2⟩ := x6
    refine JL_q (wants_none rfl) rfl (ex_move rfl) ?_
    refine JL_q (wants_none rfl) rfl (ex_extract rfl rfl) ?_
    refine JL_q (wants_none rfl) rfl (ex_extract rfl rfl) ?_
    refine JL_q (wants_none rfl) rfl (ex_assign rfl) ?_
    refine JL_q (wants_none rfl) rfl (ex_assign rfl) ?_
    refine JL_nil ?_
    refine N_then ?_
    refine J_seq ?_
    refine J_region ?_
    refine JL_q (wants_none rfl) rfl (ex_move rfl) ?_
    refine JL_q (wants_none rfl) rfl (ex_move rfl) ?_
    refine JL_bnd fun r7 hr8 => ?_
    refine JL_call (wants_none rfl) rfl Try.call14 rfl (Ca_self (fun _ => rfl) fun w hh => c_impl_ProductOf _ w (fun _ hk => hk.elim) _ _ (hh.od0 0 rfl) _ _ (hh.ow0 1 rfl) _ hr8) (fun x9 => ?_)
    obtain ⟨x9_0, x9_1⟩ := x9
    refine JL_ctx (fun w hh => hh.tkn_rd 0 rfl) ?_
    refine JL_q (wants_none rfl) rfl (ex_move rfl) ?_
    refine JL_q (wants_none rfl) rfl (ex_extract rfl rfl) ?_
    refine JL_q (wants_none rfl) rfl (ex_extract rfl rfl) ?_
    refine JL_q (wants_none rfl) rfl (ex_assign rfl) ?_
    refine JL_q (wants_none rfl) rfl (ex_assign rfl) ?_
    refine JL_nil ?_
    refine N_then ?_
    refine J_seq ?_
    refine J_region ?_
    refine JL_q (wants_none rfl) rfl (ex_move rfl) ?_
    refine JL_q (wants_none rfl) rfl (ex_move rfl) ?_
    refine JL_bnd fun r10 hr11 => ?_
    refine JL_call (wants_none rfl) rfl Try.call15 rfl (Ca_self (fun _ => rfl) fun w hh => c_impl_MatchWord _ w (fun _ hk => hk.elim) _ _ (hh.od0 2 rfl) _ _ (hh.ow0 3 rfl) _ hr11) (fun x12 => ?_)
    refine JL_q (wants_none rfl) rfl (ex_move rfl) ?_
    refine JL_q (wants_none rfl) rfl (ex_extract rfl rfl) ?_
    refine JL_q (wants_none rfl) rfl (ex_extract rfl rfl) ?_
    refine JL_q (wants_none rfl) rfl (ex_assign rfl) ?_
    refine JL_q (wants_none rfl) rfl (ex_assign rfl) ?_
    refine JL_nil ?_
    refine N_then ?_
    refine J_seq ?_
    refine J_cut' (S' := Unit) (G' := Unit) (fun _ _ => [(1, v1_), (5, x6_0), (6, x6_2), (7, x9_0), (8, .int .i64 r7.2), (10, .int .i64 r10.2)]) (fun _ _ => [.rd v1_ p1, .od 50 x6_0 r4.1 x6_1, .ow 2 x6_2 r4.2, .rd x9_0 r7.1, .tkn x9_0 r7.1 x9_1]) ?_ (fun s13 g14 => ?_)
    · refine J_seq ?_
      refine J_region ?_
      refine JL_q (wants_none rfl) rfl (ex_move rfl) ?_
      refine JL_q (wants_none rfl) rfl (ex_eql rfl rfl) ?_
      refine JL_q (wants_none rfl) rfl (ex_move rfl) ?_
      refine JL_cond (fun h15 => ?_) (fun h15 => ?_)
      · refine JL_passed rfl rfl rfl h15 ?_
        refine JL_passed rfl rfl rfl h15 ?_
        refine JL_q (wants_none rfl) rfl (ex_pick_true rfl h15 rfl) ?_
        refine JL_nil ?_
        refine N_then ?_
        refine J_if_true rfl rfl ?_
        refine J_seq ?_
        refine J_region ?_
        refine JL_q (wants_none rfl) rfl (ex_assign rfl) ?_
        refine JL_nil ?_
        refine N_then ?_
        refine J_ret ?_
        refine N_mid_ret ?_
        refine N_then_ret ?_
        exact N_ret1 rfl (rv_tmp rfl) (fun w hh => ⟨(), rfl, hh.sel [] rfl⟩)
      · refine JL_q (wants_some rfl rfl rfl h15) rfl (ex_move rfl) ?_
        refine JL_q (wants_some rfl rfl rfl h15) rfl (ex_eql rfl rfl) ?_
        refine JL_q (wants_none rfl) rfl (ex_pick_false rfl h15 rfl) ?_
        refine JL_nil ?_
        refine N_then ?_
        refine J_if rfl (fun h16 => ?_) (fun h16 => ?_)
        · refine J_seq ?_
          refine J_region ?_
          refine JL_q (wants_none rfl) rfl (ex_assign rfl) ?_
          refine JL_nil ?_
          refine N_then ?_
          refine J_ret ?_
          refine N_mid_ret ?_
          refine N_then_ret ?_
          exact N_ret1 rfl (rv_tmp rfl) (fun w hh => ⟨(), rfl, hh.sel [] rfl⟩)
        · refine J_skip ?_
          exact N_meet' () ⟨rfl, rfl, rfl, rfl, rfl, rfl, trivial⟩ [5, 3, 4, 1, 2] rfl rfl
    · refine N_then ?_
      refine J_seq ?_
      refine J_region ?_
      refine JL_q (wants_none rfl) rfl (ex_move rfl) ?_
      refine JL_bnd fun r17 hr18 => ?_
      refine JL_call (wants_none rfl) rfl Try.call16 rfl (Ca_self (fun _ => rfl) fun w hh => c_impl_WordsOfSquare _ w (fun _ hk => hk.elim) _ _ (hh.rd0 3 rfl) _ hr18) (fun x19 => ?_)
      obtain ⟨x19_0, x19_1⟩ := x19
      refine JL_q (wants_none rfl) rfl (ex_move rfl) ?_
      refine JL_q (wants_none rfl) rfl (ex_extract rfl rfl) ?_
      refine JL_q (wants_none rfl) rfl (ex_extract rfl rfl) ?_
      refine JL_q (wants_none rfl) rfl (ex_extract rfl rfl) ?_
      refine JL_q (wants_none rfl) rfl (ex_assign rfl) ?_
      refine JL_q (wants_none rfl) rfl (ex_assign rfl) ?_
      refine JL_q (wants_none rfl) rfl (ex_assign rfl) ?_
      refine JL_nil ?_
      refine N_then ?_
      refine J_seq ?_
      refine J_cut' (S' := Unit) (G' := Unit) (fun _ _ => [(1, v1_), (5, x6_0), (6, x6_2), (7, x9_0), (11, x19_0), (12, x19_1)]) (fun _ _ => [.rd v1_ p1, .od 50 x6_0 r4.1 x6_1, .ow 2 x6_2 r4.2, .rd x9_0 r7.1, .tkn x9_0 r7.1 x9_1, .ow 2 x19_0 r17.1, .ow 2 x19_1 r17.2.1]) ?_ (fun s20 g21 => ?_)
      · refine J_seq ?_
        refine J_region ?_
        refine JL_q (wants_none rfl) rfl (ex_move rfl) ?_
        refine JL_q (wants_none rfl) rfl (ex_neq rfl rfl) ?_
        refine JL_q (wants_none rfl) rfl (ex_move rfl) ?_
        refine JL_cond (fun h22 => ?_) (fun h22 => ?_)
        · refine JL_passed rfl rfl rfl h22 ?_
          refine JL_passed rfl rfl rfl h22 ?_
          refine JL_q (wants_none rfl) rfl (ex_pick_true rfl h22 rfl) ?_
          refine JL_q (wants_none rfl) rfl (ex_move rfl) ?_
          refine JL_passed rfl rfl rfl rfl ?_
          refine JL_passed rfl rfl rfl rfl ?_
          refine JL_passed rfl rfl rfl rfl ?_
          refine JL_passed rfl rfl rfl rfl ?_
          refine JL_passed rfl rfl rfl rfl ?_
          refine JL_q (wants_none rfl) rfl (ex_pick_true rfl rfl rfl) ?_
          refine JL_q (wants_none rfl) rfl (ex_move rfl) ?_
          refine JL_passed rfl rfl rfl rfl ?_
          refine JL_passed rfl rfl rfl rfl ?_
          refine JL_passed rfl rfl rfl rfl ?_
          refine JL_passed_undef rfl rfl rfl ?_
          refine JL_passed_undef rfl rfl rfl ?_
          refine JL_passed rfl rfl rfl rfl ?_
          refine JL_q (wants_none rfl) rfl (ex_pick_true rfl rfl rfl) ?_
          refine JL_nil ?_
          refine N_then ?_
          refine J_if_true rfl rfl ?_
          refine J_seq ?_
          refine J_region ?_
          refine JL_q (wants_none rfl) rfl (ex_assign rfl) ?_
          refine JL_nil ?_
          refine N_then ?_
          refine J_ret ?_
          refine N_mid_ret ?_
          refine N_then_ret ?_
          exact N_ret1 rfl (rv_tmp rfl) (fun w hh => ⟨(), rfl, hh.sel [] rfl⟩)
        · refine JL_q (wants_some rfl rfl rfl h22) rfl (ex_move rfl) ?_
          refine JL_q (wants_some rfl rfl rfl h22) rfl (ex_neq rfl rfl) ?_
          refine JL_q (wants_none rfl) rfl (ex_pick_false rfl h22 rfl) ?_
          refine JL_q (wants_none rfl) rfl (ex_move rfl) ?_
          refine JL_cond (fun h23 => ?_) (fun h23 => ?_)
          · refine JL_passed rfl rfl rfl h23 ?_
            refine JL_passed rfl rfl rfl h23 ?_
            refine JL_passed rfl rfl rfl h23 ?_
            refine JL_passed rfl rfl rfl h23 ?_
            refine JL_passed rfl rfl rfl h23 ?_
            refine JL_q (wants_none rfl) rfl (ex_pick_true rfl h23 rfl) ?_
            refine JL_q (wants_none rfl) rfl (ex_move rfl) ?_
            refine JL_passed rfl rfl rfl rfl ?_
            refine JL_passed rfl rfl rfl rfl ?_
            refine JL_passed rfl rfl rfl rfl ?_
            refine JL_passed_undef rfl rfl rfl ?_
            refine JL_passed_undef rfl rfl rfl ?_
            refine JL_passed rfl rfl rfl rfl ?_
            refine JL_q (wants_none rfl) rfl (ex_pick_true rfl rfl rfl) ?_
            refine JL_nil ?_
            refine N_then ?_
            refine J_if_true rfl rfl ?_
            refine J_seq ?_
            refine J_region ?_
            refine JL_q (wants_none rfl) rfl (ex_assign rfl) ?_
            refine JL_nil ?_
            refine N_then ?_
            refine J_ret ?_
            refine N_mid_ret ?_
            refine N_then_ret ?_
            exact N_ret1 rfl (rv_tmp rfl) (fun w hh => ⟨(), rfl, hh.sel [] rfl⟩)
          · refine JL_q (wants_some rfl rfl rfl h23) rfl (ex_move rfl) ?_
            refine JL_bnd fun r24 hr25 => ?_
            refine JL_call (wants_some rfl rfl rfl h23) rfl Try.call17 rfl (Ca_of0 fun w hh => c_impl_IsBalanced _ w (fun _ hk => hk.elim) _ _ (hh.rd0 5 rfl) _ hr25) (fun _ => ?_)
            refine JL_q (wants_some rfl rfl rfl h23) rfl (ex_move rfl) ?_
            refine JL_q (wants_some rfl rfl rfl h23) rfl (ex_eql rfl rfl) ?_
            refine JL_q (wants_some rfl rfl rfl h23) rfl (ex_neq_bool Try.underlying4 rfl rfl) ?_
            refine JL_q (wants_none rfl) rfl (ex_pick_false rfl h23 rfl) ?_
            refine JL_q (wants_none rfl) rfl (ex_move rfl) ?_
            refine JL_cond (fun h26 => ?_) (fun h26 => ?_)
            · refine JL_passed rfl rfl rfl h26 ?_
              refine JL_passed rfl rfl rfl h26 ?_
              refine JL_passed rfl rfl rfl h26 ?_
              refine JL_passed_undef rfl rfl rfl ?_
              refine JL_passed_undef rfl rfl rfl ?_
              refine JL_passed rfl rfl rfl h26 ?_
              refine JL_q (wants_none rfl) rfl (ex_pick_true rfl h26 rfl) ?_
              refine JL_nil ?_
              refine N_then ?_
              refine J_if_true rfl rfl ?_
              refine J_seq ?_
              refine J_region ?_
              refine JL_q (wants_none rfl) rfl (ex_assign rfl) ?_
              refine JL_nil ?_
              refine N_then ?_
              refine J_ret ?_
              refine N_mid_ret ?_
              refine N_then_ret ?_
              exact N_ret1 rfl (rv_tmp rfl) (fun w hh => ⟨(), rfl, hh.sel [] rfl⟩)
            · refine JL_q (wants_some rfl rfl rfl h26) rfl (ex_move rfl) ?_
              refine JL_q (wants_some rfl rfl rfl h26) rfl (ex_neq rfl rfl) ?_
              refine JL_q (wants_some rfl rfl rfl h26) rfl (ex_move rfl) ?_
              refine JL_cond (fun h27 => ?_) (fun h27 => ?_)
              · refine JL_q (wants_some rfl rfl rfl h27) rfl (ex_move rfl) ?_
                refine JL_q (wants_some rfl rfl rfl h27) rfl (ex_neq rfl rfl) ?_
                refine JL_q (wants_some rfl rfl rfl h26) rfl (ex_pick_true rfl h27 rfl) ?_
                refine JL_q (wants_none rfl) rfl (ex_pick_false rfl h26 rfl) ?_
                refine JL_nil ?_
                refine N_then ?_
                refine J_if rfl (fun h28 => ?_) (fun h28 => ?_)
                · refine J_seq ?_
                  refine J_region ?_
                  refine JL_q (wants_none rfl) rfl (ex_assign rfl) ?_
                  refine JL_nil ?_
                  refine N_then ?_
                  refine J_ret ?_
                  refine N_mid_ret ?_
                  refine N_then_ret ?_
                  exact N_ret1 rfl (rv_tmp rfl) (fun w hh => ⟨(), rfl, hh.sel [] rfl⟩)
                · refine J_skip ?_
                  exact N_meet' () ⟨rfl, rfl, rfl, rfl, rfl, rfl, trivial⟩ [2, 3, 4, 5, 6, 0, 1] rfl rfl
              · refine JL_passed rfl rfl rfl h27 ?_
                refine JL_passed rfl rfl rfl h27 ?_
                refine JL_q (wants_some rfl rfl rfl h26) rfl (ex_pick_false rfl h27 rfl) ?_
                refine JL_q (wants_none rfl) rfl (ex_pick_false rfl h26 rfl) ?_
                refine JL_nil ?_
                refine N_then ?_
                refine J_if_false rfl rfl ?_
                refine J_skip ?_
                exact N_meet' () ⟨rfl, rfl, rfl, rfl, rfl, rfl, trivial⟩ [2, 3, 4, 5, 6, 0, 1] rfl rfl
      · refine N_then ?_
        refine J_seq ?_
        refine J_region ?_
        refine JL_st (wants_none rfl) rfl (st_buildSlice (vs := []) ([] : List Int) Try.underlying27 ti_2 zi_2 rfl rfl rfl (fun w hh => trivial)) (fun b29 => ?_)
        refine JL_q (wants_none rfl) rfl (ex_assign rfl) ?_
        refine JL_nil ?_
        refine N_then ?_
        refine J_seq ?_
        refine J_region ?_
        refine JL_st (wants_none rfl) rfl (st_buildSlice (vs := []) ([] : List Int) Try.underlying27 ti_2 zi_2 rfl rfl rfl (fun w hh => trivial)) (fun b30 => ?_)
        refine JL_q (wants_none rfl) rfl (ex_assign rfl) ?_
        refine JL_nil ?_
        refine N_then ?_
        refine J_seq ?_
        refine J_seq ?_
        refine J_region ?_
        refine JL_q (wants_none rfl) rfl (ex_assign rfl) ?_
        refine JL_nil ?_
        refine N_then ?_
        refine J_ctx (fun w hh => hh.tok 3 rfl) ?_
        refine J_ctx (fun w hh => hh.tokf 5 rfl rfl) ?_
        refine J_ctx (fun w hh => hh.tokf 9 rfl rfl) ?_
        refine J_ctx (fun w hh => hh.tokf 11 rfl rfl) ?_
        refine J_loop' (S := (List Int) × (List Int) × Int) (G := Value × Value) (F_laws_FnMatrices_L1 r4) (fun s31 g32 => [(1, v1_), (5, x6_0), (6, x6_2), (7, x9_0), (11, x19_0), (12, x19_1), (14, g32.1), (15, g32.2), (16, .int .i64 s31.2.2)]) (fun s31 g32 => [.rd v1_ p1, .rd x6_0 r4.1, .tkn x6_0 r4.1 ((x6_0 : Value).ownBlock.toList ++ x6_1), .rd x6_2 r4.2, .tkn x6_2 r4.2 ((x6_2 : Value).ownBlock.toList ++ []), .rd x9_0 r7.1, .tkn x9_0 r7.1 x9_1, .rd x19_0 r17.1, .tkn x19_0 r17.1 ((x19_0 : Value).ownBlock.toList ++ []), .rd x19_1 r17.2.1, .tkn x19_1 r17.2.1 ((x19_1 : Value).ownBlock.toList ++ []), .ow 2 g32.1 s31.1, .ow 2 g32.2 s31.2.1]) (([] : List Int), ([] : List Int), 0) ((.slice (some ⟨b29, 0, none⟩) 0 0), (.slice (some ⟨b30, 0, none⟩) 0 0)) ⟨rfl, rfl, rfl, rfl, rfl, rfl, rfl, rfl, rfl, trivial⟩ [6, 7, 3, 8, 2, 9, 10, 11, 1, 12, 0, 5, 4] rfl rfl (fun s31 g32 => ?_) (fun s31 g32 => ?_)
        · obtain ⟨g32_0, g32_1⟩ := g32
          unfold F_laws_FnMatrices_L1
          refine J_seq ?_
          refine J_seq ?_
          refine J_region ?_
          refine JL_q (wants_none rfl) rfl (ex_move rfl) ?_
          refine JL_q (wants_none rfl) rfl (ex_move rfl) ?_
          refine JL_q (wants_none rfl) rfl (ex_len_rd 3 Try.underlying27 rfl rfl) ?_
          refine JL_q (wants_none rfl) rfl (ex_lss rfl rfl) ?_
          refine JL_nil ?_
          refine N_then ?_
          refine J_if rfl (fun h33 => ?_) (fun h33 => ?_)
          · refine J_skip ?_
            refine N_then ?_
            refine J_seq ?_
            refine J_block ?_
            refine J_seq ?_
            refine J_region ?_
            refine JL_q (wants_none rfl) rfl (ex_move rfl) ?_
            refine JL_q (wants_none rfl) rfl (ex_move rfl) ?_
            refine JL_q (wants_none rfl) rfl (ex_move rfl) ?_
            refine JL_q (wants_none rfl) rfl (ex_move rfl) ?_
            refine JL_bnd fun y34 hy35 => ?_
            refine JL_st (wants_none rfl) rfl (st_index 3 Try.underlying27 ti_2 rfl rfl rfl hy35) (fun q36 => ?_)
            refine JL_st (wants_none rfl) rfl (st_load_pt_o 0 (opens_int _) ti_2 rfl rfl) (fun _ => ?_)
            refine JL_bnd fun y38 hy39 => ?_
            refine JL_st (wants_none rfl) rfl (st_index 2 Try.underlying38 ti_50 rfl rfl rfl hy39) (fun q40 => ?_)
            refine JL_st (wants_none rfl) rfl (st_field_pt 0 (GDomino.at_Top _) fi_50_0 rfl rfl rfl) (fun q41 => ?_)
            refine JL_st (wants_none rfl) rfl (st_load_pt_o 0 (opens_sl _) ti_27 rfl rfl) (fun v42 => ?_)
            refine JL_bnd fun z43 hz44 => ?_
            refine JL_st (wants_none rfl) rfl (st_append 15 Try.underlying27 ti_2 zi_2 rfl bi_2 rfl rfl rfl rfl (fun w hh => hh.src_rd 0 rfl) hz44) (fun v45 => ?_)
            refine JL_q (wants_none rfl) rfl (ex_assign rfl) ?_
            refine JL_nil ?_
            refine N_then ?_
            refine J_region ?_
            refine JL_q (wants_none rfl) rfl (ex_move rfl) ?_
            refine JL_q (wants_none rfl) rfl (ex_move rfl) ?_
            refine JL_q (wants_none rfl) rfl (ex_move rfl) ?_
            refine JL_q (wants_none rfl) rfl (ex_move rfl) ?_
            refine JL_bnd fun y46 hy47 => ?_
            refine JL_st (wants_none rfl) rfl (st_index 7 Try.underlying27 ti_2 rfl rfl rfl hy47) (fun q48 => ?_)
            refine JL_st (wants_none rfl) rfl (st_load_pt_o 0 (opens_int _) ti_2 rfl rfl) (fun _ => ?_)
            refine JL_bnd fun y50 hy51 => ?_
            refine JL_st (wants_none rfl) rfl (st_index 6 Try.underlying38 ti_50 rfl rfl rfl hy51) (fun q52 => ?_)
            refine JL_st (wants_none rfl) rfl (st_field_pt 0 (GDomino.at_Bottom _) fi_50_1 rfl rfl rfl) (fun q53 => ?_)
            refine JL_st (wants_none rfl) rfl (st_load_pt_o 0 (opens_sl _) ti_27 rfl rfl) (fun v54 => ?_)
            refine JL_bnd fun z55 hz56 => ?_
            refine JL_st (wants_none rfl) rfl (st_append 20 Try.underlying27 ti_2 zi_2 rfl bi_2 rfl rfl rfl rfl (fun w hh => hh.src_rd 0 rfl) hz56) (fun v57 => ?_)
            refine JL_q (wants_none rfl) rfl (ex_assign rfl) ?_
            refine JL_nil ?_
            refine N_block ?_
            refine N_then ?_
            refine J_region ?_
            refine JL_q (wants_none rfl) rfl (ex_move rfl) ?_
            refine JL_q (wants_none rfl) rfl (ex_add rfl rfl) ?_
            refine JL_q (wants_none rfl) rfl (ex_assign rfl) ?_
            refine JL_nil ?_
            exact N_next' (v45, v57) ⟨rfl, rfl, rfl, rfl, rfl, rfl, rfl, rfl, rfl, trivial⟩ [8, 9, 10, 11, 12, 13, 14, 15, 16, 17, 18, 19, 20] rfl rfl
          · refine J_exit ?_
            refine N_then_exit ?_
            exact N_break' (g32_0, g32_1) ⟨rfl, rfl, rfl, rfl, rfl, rfl, rfl, rfl, rfl, trivial⟩ [0, 1, 2, 3, 4, 5, 6, 7, 8, 9, 10, 11, 12] rfl rfl
        · obtain ⟨g32_0, g32_1⟩ := g32
          refine N_then ?_
          refine J_seq ?_
          refine J_cut' (S' := Unit) (G' := Unit) (fun _ _ => [(1, v1_), (5, x6_0), (6, x6_2), (7, x9_0)]) (fun _ _ => [.rd v1_ p1, .rd x6_0 r4.1, .tkn x6_0 r4.1 ((x6_0 : Value).ownBlock.toList ++ x6_1), .rd x6_2 r4.2, .tkn x6_2 r4.2 ((x6_2 : Value).ownBlock.toList ++ []), .rd x9_0 r7.1, .tkn x9_0 r7.1 x9_1]) ?_ (fun s58 g59 => ?_)
          · refine J_seq ?_
            refine J_region ?_
            refine JL_q (wants_none rfl) rfl (ex_move rfl) ?_
            refine JL_q (wants_none rfl) rfl (ex_move rfl) ?_
            refine JL_bnd fun r60 hr61 => ?_
            refine JL_call (wants_none rfl) rfl Try.call18 rfl (Ca_of0 fun w hh => c_laws_r8Same _ w (fun _ hk => hk.elim) _ _ (hh.rd0 7 rfl) _ _ (hh.ow0 11 rfl) _ hr61) (fun _ => ?_)
            refine JL_q (wants_none rfl) rfl (ex_not rfl) ?_
            refine JL_q (wants_none rfl) rfl (ex_move rfl) ?_
            refine JL_cond (fun h62 => ?_) (fun h62 => ?_)
            · refine JL_passed rfl rfl rfl h62 ?_
              refine JL_passed rfl rfl rfl h62 ?_
              refine JL_passed rfl rfl rfl h62 ?_
              refine JL_passed rfl rfl rfl h62 ?_
              refine JL_q (wants_none rfl) rfl (ex_pick_true rfl h62 rfl) ?_
              refine JL_nil ?_
              refine N_then ?_
              refine J_if_true rfl rfl ?_
              refine J_seq ?_
              refine J_region ?_
              refine JL_q (wants_none rfl) rfl (ex_assign rfl) ?_
              refine JL_nil ?_
              refine N_then ?_
              refine J_ret ?_
              refine N_mid_ret ?_
              refine N_then_ret ?_
              exact N_ret1 rfl (rv_tmp rfl) (fun w hh => ⟨(), rfl, hh.sel [] rfl⟩)
            · refine JL_q (wants_some rfl rfl rfl h62) rfl (ex_move rfl) ?_
              refine JL_q (wants_some rfl rfl rfl h62) rfl (ex_move rfl) ?_
              refine JL_bnd fun r63 hr64 => ?_
              refine JL_call (wants_some rfl rfl rfl h62) rfl Try.call18 rfl (Ca_of0 fun w hh => c_laws_r8Same _ w (fun _ hk => hk.elim) _ _ (hh.rd0 9 rfl) _ _ (hh.ow0 12 rfl) _ hr64) (fun _ => ?_)
              refine JL_q (wants_some rfl rfl rfl h62) rfl (ex_not rfl) ?_
              refine JL_q (wants_none rfl) rfl (ex_pick_false rfl h62 rfl) ?_
              refine JL_nil ?_
              refine N_then ?_
              refine J_if rfl (fun h65 => ?_) (fun h65 => ?_)
              · refine J_seq ?_
                refine J_region ?_
                refine JL_q (wants_none rfl) rfl (ex_assign rfl) ?_
                refine JL_nil ?_
                refine N_then ?_
                refine J_ret ?_
                refine N_mid_ret ?_
                refine N_then_ret ?_
                exact N_ret1 rfl (rv_tmp rfl) (fun w hh => ⟨(), rfl, hh.sel [] rfl⟩)
              · refine J_skip ?_
                exact N_meet' () ⟨rfl, rfl, rfl, rfl, trivial⟩ [0, 1, 2, 3, 4, 5, 6] rfl rfl
          · refine N_then ?_
            refine J_seq ?_
            refine J_region ?_
            refine JL_q (wants_none rfl) rfl (ex_move rfl) ?_
            refine JL_q (wants_none rfl) rfl (ex_move rfl) ?_
            refine JL_q (wants_none rfl) rfl (ex_len_rd 3 Try.underlying27 rfl rfl) ?_
            refine JL_bnd fun r66 hr67 => ?_
            refine JL_call (wants_none rfl) rfl Try.call19 rfl (Ca_of0 fun w hh => c_laws_r8At _ w (fun _ hk => hk.elim) _ _ (hh.rd0 0 rfl) _ _ _ hr67) (fun _ => ?_)
            refine JL_q (wants_none rfl) rfl (ex_assign rfl) ?_
            refine JL_nil ?_
            refine N_then ?_
            refine J_seq ?_
            refine J_region ?_
            refine JL_q (wants_none rfl) rfl (ex_move rfl) ?_
            refine JL_q (wants_none rfl) rfl (ex_assign rfl) ?_
            refine JL_nil ?_
            refine N_then ?_
            refine J_seq ?_
            refine J_seq ?_
            refine J_region ?_
            refine JL_q (wants_none rfl) rfl (ex_move rfl) ?_
            refine JL_q (wants_none rfl) rfl (ex_gtr rfl rfl) ?_
            refine JL_nil ?_
            refine N_then ?_
            refine J_if rfl (fun h68 => ?_) (fun h68 => ?_)
            · refine J_seq ?_
              refine J_region ?_
              refine JL_q (wants_none rfl) rfl (ex_move rfl) ?_
              refine JL_q (wants_none rfl) rfl (ex_move rfl) ?_
              refine JL_q (wants_none rfl) rfl (ex_move rfl) ?_
              refine JL_bnd fun z69 hz70 => ?_
              refine JL_st (wants_none rfl) rfl (st_slice 3 Try.underlying27 ti_2 rfl rfl rfl rfl hz70) (fun v71 => ?_)
              refine JL_bnd fun r72 hr73 => ?_
              refine JL_call (wants_none rfl) rfl Try.call14 rfl (Ca_self (fun _ => rfl) fun w hh => c_impl_ProductOf _ w (fun _ hk => hk.elim) _ _ (hh.rd0 2 rfl) _ _ (hh.rd0 0 rfl) _ hr73) (fun x74 => ?_)
              obtain ⟨x74_0, x74_1⟩ := x74
              refine JL_ctx (fun w hh => hh.tkn_rd 0 rfl) ?_
              refine JL_q (wants_none rfl) rfl (ex_move rfl) ?_
              refine JL_q (wants_none rfl) rfl (ex_extract rfl rfl) ?_
              refine JL_q (wants_none rfl) rfl (ex_extract rfl rfl) ?_
              refine JL_q (wants_none rfl) rfl (ex_assign rfl) ?_
              refine JL_q (wants_none rfl) rfl (ex_assign rfl) ?_
              refine JL_nil ?_
              refine N_then ?_
              refine J_seq ?_
              refine J_region ?_
              refine JL_q (wants_none rfl) rfl (ex_move rfl) ?_
              refine JL_q (wants_none rfl) rfl (ex_move rfl) ?_
              refine JL_q (wants_none rfl) rfl (ex_move rfl) ?_
              refine JL_bnd fun z75 hz76 => ?_
              refine JL_st (wants_none rfl) rfl (st_slice 6 Try.underlying27 ti_2 rfl rfl rfl rfl hz76) (fun v77 => ?_)
              refine JL_bnd fun r78 hr79 => ?_
              refine JL_call (wants_none rfl) rfl Try.call14 rfl (Ca_self (fun _ => rfl) fun w hh => c_impl_ProductOf _ w (fun _ hk => hk.elim) _ _ (hh.rd0 5 rfl) _ _ (hh.rd0 0 rfl) _ hr79) (fun x80 => ?_)
              obtain ⟨x80_0, x80_1⟩ := x80
              refine JL_ctx (fun w hh => hh.tkn_rd 0 rfl) ?_
              refine JL_q (wants_none rfl) rfl (ex_move rfl) ?_
              refine JL_q (wants_none rfl) rfl (ex_extract rfl rfl) ?_
              refine JL_q (wants_none rfl) rfl (ex_extract rfl rfl) ?_
              refine JL_q (wants_none rfl) rfl (ex_assign rfl) ?_
              refine JL_q (wants_none rfl) rfl (ex_assign rfl) ?_
              refine JL_nil ?_
              refine N_then ?_
              refine J_seq ?_
              refine J_region ?_
              refine JL_q (wants_none rfl) rfl (ex_move rfl) ?_
              refine JL_q (wants_none rfl) rfl (ex_move rfl) ?_
              refine JL_bnd fun r81 hr82 => ?_
              refine JL_call (wants_none rfl) rfl Try.call20 rfl (Ca_self (fun _ => rfl) fun w hh => c_impl_MultiplySquares _ w (fun _ hk => hk.elim) _ _ (hh.rd0 3 rfl) _ _ (hh.rd0 0 rfl) _ hr82) (fun x83 => ?_)
              obtain ⟨x83_0, x83_1⟩ := x83
              refine JL_ctx (fun w hh => hh.tkn_rd 0 rfl) ?_
              refine JL_q (wants_none rfl) rfl (ex_move rfl) ?_
              refine JL_q (wants_none rfl) rfl (ex_extract rfl rfl) ?_
              refine JL_q (wants_none rfl) rfl (ex_extract rfl rfl) ?_
              refine JL_q (wants_none rfl) rfl (ex_assign rfl) ?_
              refine JL_q (wants_none rfl) rfl (ex_assign rfl) ?_
              refine JL_nil ?_
              refine N_then ?_
              refine J_seq ?_
              refine J_seq ?_
              refine J_region ?_
              refine JL_q (wants_none rfl) rfl (ex_move rfl) ?_
              refine JL_q (wants_none rfl) rfl (ex_neq rfl rfl) ?_
              refine JL_q (wants_none rfl) rfl (ex_move rfl) ?_
              refine JL_cond (fun h84 => ?_) (fun h84 => ?_)
              · refine JL_passed rfl rfl rfl h84 ?_
                refine JL_passed rfl rfl rfl h84 ?_
                refine JL_q (wants_none rfl) rfl (ex_pick_true rfl h84 rfl) ?_
                refine JL_q (wants_none rfl) rfl (ex_move rfl) ?_
                refine JL_passed rfl rfl rfl rfl ?_
                refine JL_passed rfl rfl rfl rfl ?_
                refine JL_q (wants_none rfl) rfl (ex_pick_true rfl rfl rfl) ?_
                refine JL_nil ?_
                refine N_then ?_
                refine J_if_true rfl rfl ?_
                refine J_seq ?_
                refine J_region ?_
                refine JL_q (wants_none rfl) rfl (ex_assign rfl) ?_
                refine JL_nil ?_
                refine N_then ?_
                refine J_ret ?_
                refine N_then_ret ?_
                refine N_then_ret ?_
                exact N_ret1 rfl (rv_tmp rfl) (fun w hh => ⟨(), rfl, hh.sel [] rfl⟩)
              · refine JL_q (wants_some rfl rfl rfl h84) rfl (ex_move rfl) ?_
                refine JL_q (wants_some rfl rfl rfl h84) rfl (ex_neq rfl rfl) ?_
                refine JL_q (wants_none rfl) rfl (ex_pick_false rfl h84 rfl) ?_
                refine JL_q (wants_none rfl) rfl (ex_move rfl) ?_
                refine JL_cond (fun h85 => ?_) (fun h85 => ?_)
                · refine JL_passed rfl rfl rfl h85 ?_
                  refine JL_passed rfl rfl rfl h85 ?_
                  refine JL_q (wants_none rfl) rfl (ex_pick_true rfl h85 rfl) ?_
                  refine JL_nil ?_
                  refine N_then ?_
                  refine J_if_true rfl rfl ?_
                  refine J_seq ?_
                  refine J_region ?_
                  refine JL_q (wants_none rfl) rfl (ex_assign rfl) ?_
                  refine JL_nil ?_
                  refine N_then ?_
                  refine J_ret ?_
                  refine N_then_ret ?_
                  refine N_then_ret ?_
                  exact N_ret1 rfl (rv_tmp rfl) (fun w hh => ⟨(), rfl, hh.sel [] rfl⟩)
                · refine JL_q (wants_some rfl rfl rfl h85) rfl (ex_move rfl) ?_
                  refine JL_q (wants_some rfl rfl rfl h85) rfl (ex_neq rfl rfl) ?_
                  refine JL_q (wants_none rfl) rfl (ex_pick_false rfl h85 rfl) ?_
                  refine JL_nil ?_
                  refine N_then ?_
                  refine J_if rfl (fun h86 => ?_) (fun h86 => ?_)
                  · refine J_seq ?_
                    refine J_region ?_
                    refine JL_q (wants_none rfl) rfl (ex_assign rfl) ?_
                    refine JL_nil ?_
                    refine N_then ?_
                    refine J_ret ?_
                    refine N_then_ret ?_
                    refine N_then_ret ?_
                    exact N_ret1 rfl (rv_tmp rfl) (fun w hh => ⟨(), rfl, hh.sel [] rfl⟩)
                  · refine J_skip ?_
                    refine N_then ?_
                    refine J_region ?_
                    refine JL_q (wants_none rfl) rfl (ex_move rfl) ?_
                    refine JL_q (wants_none rfl) rfl (ex_assign rfl) ?_
                    refine JL_nil ?_
                    refine N_then ?_
                    refine J_seq ?_
                    refine J_region ?_
                    refine JL_q (wants_none rfl) rfl (ex_move rfl) ?_
                    refine JL_q (wants_none rfl) rfl (ex_move rfl) ?_
                    refine JL_bnd fun r87 hr88 => ?_
                    refine JL_call (wants_none rfl) rfl Try.call21 rfl (Ca_of0 fun w hh => c_laws_r8Lists _ w (fun _ hk => hk.elim) _ _ (hh.rd0 0 rfl) _ _ (hh.rd0 13 rfl) _ hr88) (fun _ => ?_)
                    refine JL_q (wants_none rfl) rfl (ex_assign rfl) ?_
                    refine JL_nil ?_
                    refine N_then ?_
                    refine J_ret ?_
                    exact N_ret1 rfl (rv_tmp rfl) (fun w hh => ⟨(), rfl, hh.sel [] rfl⟩)
            · refine J_skip ?_
              refine N_then ?_
              refine J_seq ?_
              refine J_region ?_
              refine JL_q (wants_none rfl) rfl (ex_move rfl) ?_
              refine JL_q (wants_none rfl) rfl (ex_move rfl) ?_
              refine JL_bnd fun r89 hr90 => ?_
              refine JL_call (wants_none rfl) rfl Try.call21 rfl (Ca_of0 fun w hh => c_laws_r8Lists _ w (fun _ hk => hk.elim) _ _ (hh.rd0 5 rfl) _ _ (hh.rd0 5 rfl) _ hr90) (fun _ => ?_)
              refine JL_q (wants_none rfl) rfl (ex_assign rfl) ?_
              refine JL_nil ?_
              refine N_then ?_
              refine J_ret ?_
              exact N_ret1 rfl (rv_tmp rfl) (fun w hh => ⟨(), rfl, hh.sel [] rfl⟩)

end Go.Proofs.Ytgojoooilijiiaa
