/-
  Each function of the program computes what its plain function says: printed by program. No condition.
-/
import Derived.Test.YtlepdmenejbleaaGreatFn
import Derived.Test.YtlepdmenejbleaaGreatInf
import Derived.Test.YtlepdmenejbleaaGreatCon1
import Derived.Test.YtlepdmenejbleaaGreatCon2
import Derived.Test.YtlepdmenejbleaaGreatCon3
import Derived.Test.YtlepdmenejbleaaGreatCon4
import Derived.Test.YtlepdmenejbleaaGreatCon5
import Derived.Test.YtlepdmenejbleaaGreatCon6
namespace Go.Proofs.YtlepdmenejbleaaGreat
open Go Go.Tc Go.Fn
set_option linter.unusedVariables false
set_option maxHeartbeats 40000000 in
theorem c_impl_plainDominoes (A : Nat → Prop) (w : World) (hA : ∀ k, A k → k < w.heap.size) (v0_ : Value) (p0 : (List GDomino)) (hp0 : Rd A w v0_ p0) (r : (List GDomino) × Int) (hr : F_impl_plainDominoes p0 = some r) :
  Con Tryz.prog 58 [v0_] A w (fun x_ : Value × List Nat => .tuple #[x_.1, .int .i64 r.2]) (fun x_ => [.od 95 x_.1 r.1 x_.2]) := by
 refine Con_of (v := fun (r : (List GDomino) × Int) (x_ : Value × List Nat) => .tuple #[x_.1, .int .i64 r.2]) (fs := fun r x_ => [.od 95 x_.1 r.1 x_.2]) Tryz.func58 rfl Tryz.ntmps58 rfl ((SH.start hA).start_rd rfl hp0) rfl ?_ hr
 unfold F_impl_plainDominoes
 refine J_sr ?_
 refine JA rfl rfl ?_
 refine JA rfl rfl ?_
 refine JL_nt ?_
 refine J_sr ?_
 refine JL_st wn rfl (st_buildSlice_od (vs := []) (B := ([] : List Nat)) ([] : List GDomino) [] Tryz.underlying47 ti_95 zi_95 rfl rfl rfl rfl rfl (fun w hh => dwv_nil)) (fun b1 => ?_)
 refine JA rfl rfl ?_
 refine JL_nt ?_
 refine J_seq ?_
 refine J_sr ?_
 refine JM rfl rfl ?_
 refine JL_q wn rfl (ex_len_rd 1 Tryz.underlying47 rfl rfl) ?_
 refine JM rfl rfl ?_
 refine JL_nt ?_
 refine J_loop' (S := (List GDomino) × Int) (G := Value × List Nat) (F_impl_plainDominoes_L1 p0) (fun s2 g3 => [(4, g3.1), (8, v0_), (9, .int .i64 (p0.length : Int)), (10, .int .i64 s2.2)]) (fun s2 g3 => [.od 95 g3.1 s2.1 g3.2, .rd v0_ p0]) (([] : List GDomino), 0) ((.slice (some ⟨b1, 0, none⟩) 0 0), ([] : List Nat)) ⟨rfl, rfl, rfl, rfl, trivial⟩ [0, 1] rfl rfl (fun s2 g3 => ?_) (fun s2 g3 => ?_)
 ·obtain ⟨g3_0, g3_1⟩ := g3
  unfold F_impl_plainDominoes_L1
  refine J_sr ?_
  refine JL_q wn rfl (ex_lss rfl rfl) ?_
  refine JL_nt ?_
  refine J_seq ?_
  refine J_if rfl (fun h4 => ?_) (fun h4 => ?_)
  ·refine J_skip ?_
   refine N_then ?_
   refine J_seq ?_
   refine J_block ?_
   refine J_sr ?_
   refine JM rfl rfl ?_
   refine JL_bnd fun y5 hy6 => ?_
   refine JL_st wn rfl (st_index 1 Tryz.underlying47 ti_95 rfl rfl rfl hy6) (fun q7 => ?_)
   refine JL_st wn rfl (st_load_pt_o 0 (GDomino.opens _) ti_95 rfl rfl) (fun v8 => ?_)
   refine JL_st wn rfl (st_alloc zi_95 rfl) (fun b9 => ?_)
   refine JA rfl rfl ?_
   refine JL_sk wn (sk_store_bx' 0 ti_95 rfl rfl (fun w hh => (cv_aggs ⟨(hh.cv 1 rfl), (hh.cv 2 rfl), trivial⟩)) rfl rfl rfl rfl) ?_
   refine JL_nt ?_
   refine J_seq ?_
   refine J_cut' (S' := Unit) (G' := Unit) (fun _ _ => [(4, g3_0), (5, .int .i64 s2.2), (6, .pointer (some ⟨b9, 0, none⟩)), (8, v0_), (9, .int .i64 (p0.length : Int)), (10, .int .i64 s2.2)]) (fun _ _ => [.od 95 g3_0 s2.1 g3_1, .rd v8.1 y5.Top, .rd v8.2 y5.Bottom, .bx b9 95 [v8.1, v8.2], .rd v0_ p0]) ?_ (fun s10 g11 => ?_)
   ·refine J_sr ?_
    refine JL_q wn rfl (ex_fieldAddr fi_95_0 rfl rfl) ?_
    refine JL_q wn rfl (ex_load_bx 0 ti_27 rfl rfl rfl) ?_
    refine JL_q wn rfl (ex_len_rd 1 Tryz.underlying27 rfl rfl) ?_
    refine JL_q wn rfl (ex_eql rfl rfl) ?_
    refine JM rfl rfl ?_
    refine JL_cond (fun h12 => ?_) (fun h12 => ?_)
    ·refine JL_passed rfl rfl rfl h12 ?_
     refine JL_passed rfl rfl rfl h12 ?_
     refine JL_passed rfl rfl rfl h12 ?_
     refine JL_passed rfl rfl rfl h12 ?_
     refine JL_q wn rfl (ex_pick_true rfl h12 rfl) ?_
     refine JM rfl rfl ?_
     refine JL_passed rfl rfl rfl rfl ?_
     refine JL_passed rfl rfl rfl rfl ?_
     refine JL_passed rfl rfl rfl rfl ?_
     refine JL_passed rfl rfl rfl rfl ?_
     refine JL_passed rfl rfl rfl rfl ?_
     refine JL_passed rfl rfl rfl rfl ?_
     refine JL_passed rfl rfl rfl rfl ?_
     refine JL_passed rfl rfl rfl rfl ?_
     refine JL_q wn rfl (ex_pick_true rfl rfl rfl) ?_
     refine JL_nt ?_
     refine J_if_true rfl rfl ?_
     refine J_sr ?_
     refine JA rfl rfl ?_
     refine JA rfl rfl ?_
     refine JL_nt ?_
     refine J_ret ?_
     refine N_mid_ret ?_
     refine N_then_ret ?_
     refine N_block_ret ?_
     refine N_then_ret ?_
     refine N_round_ret ?_
     refine N_then_ret ?_
     refine N_ctx (fun w hh => SH.od_nil (α := GDomino) 95 hh) ?_
     exact N_ret2 rfl (rv_tmp rfl) (rv_tmp rfl) (fun w hh => ⟨((.slice none 0 0 : Value), ([] : List Nat)), rfl, hh.sel [0] rfl⟩)
    ·refine JL_q (wants_some rfl rfl rfl h12) rfl (ex_fieldAddr fi_95_1 rfl rfl) ?_
     refine JL_q (wants_some rfl rfl rfl h12) rfl (ex_load_bx 0 ti_27 rfl rfl rfl) ?_
     refine JL_q (wants_some rfl rfl rfl h12) rfl (ex_len_rd 2 Tryz.underlying27 rfl rfl) ?_
     refine JL_q (wants_some rfl rfl rfl h12) rfl (ex_eql rfl rfl) ?_
     refine JL_q wn rfl (ex_pick_false rfl h12 rfl) ?_
     refine JM rfl rfl ?_
     refine JL_cond (fun h13 => ?_) (fun h13 => ?_)
     ·refine JL_passed rfl rfl rfl h13 ?_
      refine JL_passed rfl rfl rfl h13 ?_
      refine JL_passed rfl rfl rfl h13 ?_
      refine JL_passed rfl rfl rfl h13 ?_
      refine JL_passed rfl rfl rfl h13 ?_
      refine JL_passed rfl rfl rfl h13 ?_
      refine JL_passed rfl rfl rfl h13 ?_
      refine JL_passed rfl rfl rfl h13 ?_
      refine JL_q wn rfl (ex_pick_true rfl h13 rfl) ?_
      refine JL_nt ?_
      refine J_if_true rfl rfl ?_
      refine J_sr ?_
      refine JA rfl rfl ?_
      refine JA rfl rfl ?_
      refine JL_nt ?_
      refine J_ret ?_
      refine N_mid_ret ?_
      refine N_then_ret ?_
      refine N_block_ret ?_
      refine N_then_ret ?_
      refine N_round_ret ?_
      refine N_then_ret ?_
      refine N_ctx (fun w hh => SH.od_nil (α := GDomino) 95 hh) ?_
      exact N_ret2 rfl (rv_tmp rfl) (rv_tmp rfl) (fun w hh => ⟨((.slice none 0 0 : Value), ([] : List Nat)), rfl, hh.sel [0] rfl⟩)
     ·refine JL_q (wants_some rfl rfl rfl h13) rfl (ex_fieldAddr fi_95_0 rfl rfl) ?_
      refine JL_q (wants_some rfl rfl rfl h13) rfl (ex_load_bx 0 ti_27 rfl rfl rfl) ?_
      refine JL_q (wants_some rfl rfl rfl h13) rfl (ex_fieldAddr fi_95_1 rfl rfl) ?_
      refine JL_q (wants_some rfl rfl rfl h13) rfl (ex_load_bx 0 ti_27 rfl rfl rfl) ?_
      refine JL_st (wants_some rfl rfl rfl h13) rfl (st_buildSlice (vs := [v8.1, v8.2]) ([y5.Top, y5.Bottom] : List (List Int)) Tryz.underlying39 ti_27 zi_27 rfl rfl rfl (fun w hh => ⟨(hh.rd 1 rfl), (hh.rd 2 rfl), trivial⟩)) (fun b14 => ?_)
      refine JL_bnd fun r15 hr16 => ?_
      refine JL_call (wants_some rfl rfl rfl h13) rfl Tryz.call45 rfl (Ca_self (fun _ => rfl) fun w hh => c_impl_joined _ w (fun _ hk => hk.elim) _ _ (hh.ow0 0 rfl) _ hr16) (fun x17 => ?_)
      refine JL_bnd fun r18 hr19 => ?_
      refine JL_call (wants_some rfl rfl rfl h13) rfl Tryz.call81 rfl (Ca_of0 fun w hh => c_impl_allWithin _ w (fun _ hk => hk.elim) _ _ (hh.ow0 0 rfl) _ _ _ hr19) (fun _ => ?_)
      refine JL_q (wants_some rfl rfl rfl h13) rfl (ex_not rfl) ?_
      refine JL_q wn rfl (ex_pick_false rfl h13 rfl) ?_
      refine JL_nt ?_
      refine J_if rfl (fun h20 => ?_) (fun h20 => ?_)
      ·refine J_sr ?_
       refine JA rfl rfl ?_
       refine JA rfl rfl ?_
       refine JL_nt ?_
       refine J_ret ?_
       refine N_mid_ret ?_
       refine N_then_ret ?_
       refine N_block_ret ?_
       refine N_then_ret ?_
       refine N_round_ret ?_
       refine N_then_ret ?_
       refine N_ctx (fun w hh => SH.od_nil (α := GDomino) 95 hh) ?_
       exact N_ret2 rfl (rv_tmp rfl) (rv_tmp rfl) (fun w hh => ⟨((.slice none 0 0 : Value), ([] : List Nat)), rfl, hh.sel [0] rfl⟩)
      ·refine J_skip ?_
       exact N_meet' () ⟨rfl, rfl, rfl, rfl, rfl, rfl, trivial⟩ [6, 3, 4, 2, 7] rfl rfl
   ·refine N_then ?_
    refine J_seq ?_
    refine J_sr ?_
    refine JM rfl rfl ?_
    refine JL_q wn rfl (ex_eql rfl rfl) ?_
    refine JL_nt ?_
    refine J_if rfl (fun h21 => ?_) (fun h21 => ?_)
    ·refine J_draw [0] (by kernel_rfl) ?_
     refine JP_take (i := 0) [1, 2, 3, 4] [0] rfl (by kernel_rfl) (by kernel_rfl) (by kernel_rfl) rfl rfl wn rfl (ex_move rfl) ?_
     refine JP_take (i := 2) [1, 2, 3, 4] [0] rfl (by kernel_rfl) (by kernel_rfl) (by kernel_rfl) rfl rfl wn rfl (ex_fieldAddr fi_95_0 rfl rfl) ?_
     refine JP_take (i := 3) [1, 2, 3, 4] [0] rfl (by kernel_rfl) (by kernel_rfl) (by kernel_rfl) rfl rfl wn rfl (ex_load_bx 2 ti_27 rfl rfl rfl) ?_
     refine JP_take (i := 7) [1, 2, 3, 4] [0] rfl (by kernel_rfl) (by kernel_rfl) (by kernel_rfl) rfl rfl wn rfl (ex_fieldAddr fi_95_1 rfl rfl) ?_
     refine JP_take (i := 8) [1, 2, 3, 4] [0] rfl (by kernel_rfl) (by kernel_rfl) (by kernel_rfl) rfl rfl wn rfl (ex_load_bx 2 ti_27 rfl rfl rfl) ?_
     refine JP_go [1, 2, 3, 4] [0] rfl rfl rfl (fun w23 h1_24 hp22 => ?_)
     refine JD_bnd fun r25 hr26 => ?_
     refine JD_two (i := 1) (j := 4) (by kernel_rfl) ?_ ?_
     ·refine JO_st rfl wn rfl (st_buildSlice (vs := [.int .i64 9]) ([9] : List Int) Tryz.underlying27 ti_2 zi_2 rfl rfl rfl (fun w hh => ⟨(Rd.mk_int _ _ _), trivial⟩)) (fun _ hk => nomatch hk) (fun b27 => ?_)
      refine JD_one (i := 4) (by kernel_rfl) ?_
      refine JO_call rfl wn rfl Tryz.call104 rfl (Ca_self (fun _ => rfl) fun w hh => c_impl_spread _ w (fun _ hk => hk.elim) _ _ (hh.rd0 2 rfl) _ _ hr26) (fun x28 => ?_)
      refine JD_one (i := 5) (by kernel_rfl) ?_
      refine JO_ctx (fun w hh => hh.tokf 1 rfl rfl) (tokf_owns (i := 1) rfl) ?_
      refine JO_ctx (fun w hh => hh.tokf 1 rfl rfl) (tokf_owns (i := 1) rfl) ?_
      refine JO_st rfl wn rfl (st_buildSlice_od (vs := [(.slice (some ⟨b27, 0, none⟩) 1 1), x28]) (B := ((((.slice (some ⟨b27, 0, none⟩) 1 1) : Value).ownBlock.toList ++ []) ++ (((x28 : Value).ownBlock.toList ++ []) ++ []))) ([([9] : List Int), r25] : List (List Int)) [1, 0] Tryz.underlying39 ti_27 zi_27 rfl rfl rfl rfl rfl (fun w hh => (dwv_cons (hh.dw 1 rfl) (dwv_cons (hh.dw 0 rfl) dwv_nil)))) (fun _ hk => nomatch hk) (fun b29 => ?_)
      refine JD_bnd fun r30 hr31 => ?_
      refine JD_one (i := 6) (by kernel_rfl) ?_
      refine JO_call rfl wn rfl Tryz.call45 rfl (Ca_self (fun _ => rfl) fun w hh => c_impl_joined _ w (fun _ hk => hk.elim) _ _ (hh.od0 0 rfl) _ hr31) (fun x32 => ?_)
      refine JD_bnd fun r33 hr34 => ?_
      refine JD_one (i := 9) (by kernel_rfl) ?_
      refine JO_call rfl wn rfl Tryz.call104 rfl (Ca_self (fun _ => rfl) fun w hh => c_impl_spread _ w (fun _ hk => hk.elim) _ _ (hh.rd0 8 rfl) _ _ hr34) (fun x35 => ?_)
      refine JD_one (i := 10) (by kernel_rfl) ?_
      refine JO_q rfl wn rfl (ex_build si_95 rfl (.cons fi_95_0 rfl rfl (.cons fi_95_1 rfl rfl .nil)) (fun w hh => ⟨(hh.cv_ow 1 rfl), (hh.cv_ow 0 rfl), trivial⟩)) ?_
      refine JD_one (i := 11) (by kernel_rfl) ?_
      refine JO_ctx (fun w hh => hh.tokf 1 rfl rfl) (tokf_owns (i := 1) rfl) ?_
      refine JO_ctx (fun w hh => hh.tokf 1 rfl rfl) (tokf_owns (i := 1) rfl) ?_
      refine JO_st rfl wn rfl (st_buildSlice_od (vs := [.agg #[x32, x35]]) (B := (((x32 : Value).ownBlock.toList ++ []) ++ (((x35 : Value).ownBlock.toList ++ []) ++ []))) ([(⟨r30, r33⟩ : GDomino)] : List GDomino) [1, 0] Tryz.underlying47 ti_95 zi_95 rfl rfl rfl rfl rfl (fun w hh => (dwv_cons (GDomino.dw (hh.dw 1 rfl) (hh.dw 0 rfl)) dwv_nil))) (fun _ hk => nomatch hk) (fun b36 => ?_)
      refine JD_bnd fun z37 hz38 => ?_
      refine JD_one (i := 12) (by kernel_rfl) ?_
      refine JO_st rfl wn rfl (st_append_od 10 0 Tryz.underlying47 ti_95 zi_95 rfl bi_95 rfl rfl rfl rfl rfl rfl hz38) (sub_od 0 rfl) (fun v39 => ?_)
      refine JD_take (i := 13) hp22 rfl (by kernel_rfl) (by kernel_rfl) (by kernel_rfl) wn rfl (ex_assign rfl) ?_
      refine JD_done (by kernel_rfl) ?_
      refine N_then ?_
      refine J_draw [10] (by kernel_rfl) ?_
      refine JP_take (i := 0) [0, 1, 2, 3, 4, 5, 6, 7, 8, 9, 11, 12, 13, 14] [10] rfl (by kernel_rfl) (by kernel_rfl) (by kernel_rfl) rfl rfl wn rfl (ex_move rfl) ?_
      refine JP_take (i := 1) [0, 1, 2, 3, 4, 5, 6, 7, 8, 9, 11, 12, 13, 14] [10] rfl (by kernel_rfl) (by kernel_rfl) (by kernel_rfl) rfl rfl wn rfl (ex_fieldAddr fi_95_0 rfl rfl) ?_
      refine JP_take (i := 2) [0, 1, 2, 3, 4, 5, 6, 7, 8, 9, 11, 12, 13, 14] [10] rfl (by kernel_rfl) (by kernel_rfl) (by kernel_rfl) rfl rfl wn rfl (ex_load_bx 12 ti_27 rfl rfl rfl) ?_
      refine JP_take (i := 4) [0, 1, 2, 3, 4, 5, 6, 7, 8, 9, 11, 12, 13, 14] [10] rfl (by kernel_rfl) (by kernel_rfl) (by kernel_rfl) rfl rfl wn rfl (ex_fieldAddr fi_95_1 rfl rfl) ?_
      refine JP_take (i := 5) [0, 1, 2, 3, 4, 5, 6, 7, 8, 9, 11, 12, 13, 14] [10] rfl (by kernel_rfl) (by kernel_rfl) (by kernel_rfl) rfl rfl wn rfl (ex_load_bx 12 ti_27 rfl rfl rfl) ?_
      refine JP_go [0, 1, 2, 3, 4, 5, 6, 7, 8, 9, 11, 12, 13, 14] [10] rfl rfl rfl (fun w41 h1_42 hp40 => ?_)
      refine JD_bnd fun r43 hr44 => ?_
      refine JD_one (i := 3) (by kernel_rfl) ?_
      refine JO_call rfl wn rfl Tryz.call104 rfl (Ca_self (fun _ => rfl) fun w hh => c_impl_spread _ w (fun _ hk => hk.elim) _ _ (hh.rd0 11 rfl) _ _ hr44) (fun x45 => ?_)
      refine JD_bnd fun r46 hr47 => ?_
      refine JD_one (i := 6) (by kernel_rfl) ?_
      refine JO_call rfl wn rfl Tryz.call104 rfl (Ca_self (fun _ => rfl) fun w hh => c_impl_spread _ w (fun _ hk => hk.elim) _ _ (hh.rd0 13 rfl) _ _ hr47) (fun x48 => ?_)
      refine JD_one (i := 7) (by kernel_rfl) ?_
      refine JO_q rfl wn rfl (ex_build si_95 rfl (.cons fi_95_0 rfl rfl (.cons fi_95_1 rfl rfl .nil)) (fun w hh => ⟨(hh.cv_ow 1 rfl), (hh.cv_ow 0 rfl), trivial⟩)) ?_
      refine JD_one (i := 8) (by kernel_rfl) ?_
      refine JO_ctx (fun w hh => hh.tokf 1 rfl rfl) (tokf_owns (i := 1) rfl) ?_
      refine JO_ctx (fun w hh => hh.tokf 1 rfl rfl) (tokf_owns (i := 1) rfl) ?_
      refine JO_st rfl wn rfl (st_buildSlice_od (vs := [.agg #[x45, x48]]) (B := (((x45 : Value).ownBlock.toList ++ []) ++ (((x48 : Value).ownBlock.toList ++ []) ++ []))) ([(⟨r43, r46⟩ : GDomino)] : List GDomino) [1, 0] Tryz.underlying47 ti_95 zi_95 rfl rfl rfl rfl rfl (fun w hh => (dwv_cons (GDomino.dw (hh.dw 1 rfl) (hh.dw 0 rfl)) dwv_nil))) (fun _ hk => nomatch hk) (fun b49 => ?_)
      refine JD_bnd fun z50 hz51 => ?_
      refine JD_one (i := 9) (by kernel_rfl) ?_
      refine JO_st rfl wn rfl (st_append_od 15 0 Tryz.underlying47 ti_95 zi_95 rfl bi_95 rfl rfl rfl rfl rfl rfl hz51) (sub_od 0 rfl) (fun v52 => ?_)
      refine JD_take (i := 10) hp40 rfl (by kernel_rfl) (by kernel_rfl) (by kernel_rfl) wn rfl (ex_assign rfl) ?_
      refine JD_done (by kernel_rfl) ?_
      refine N_block ?_
      refine N_then ?_
      refine J_region ?_
      refine JL_q wn rfl (ex_add rfl rfl) ?_
      refine JM rfl rfl ?_
      refine JL_nil ?_
      exact N_next' (v52, ((g3_1 ++ (((x32 : Value).ownBlock.toList ++ []) ++ (((x35 : Value).ownBlock.toList ++ []) ++ []))) ++ (((x45 : Value).ownBlock.toList ++ []) ++ (((x48 : Value).ownBlock.toList ++ []) ++ [])))) ⟨rfl, rfl, rfl, rfl, trivial⟩ [15, 19] rfl rfl
     ·refine JO_call rfl wn rfl Tryz.call104 rfl (Ca_self (fun _ => rfl) fun w hh => c_impl_spread _ w (fun _ hk => hk.elim) _ _ (hh.rd0 1 rfl) _ _ hr26) (fun x53 => ?_)
      refine JD_one (i := 1) (by kernel_rfl) ?_
      refine JO_st rfl wn rfl (st_buildSlice (vs := [.int .i64 9]) ([9] : List Int) Tryz.underlying27 ti_2 zi_2 rfl rfl rfl (fun w hh => ⟨(Rd.mk_int _ _ _), trivial⟩)) (fun _ hk => nomatch hk) (fun b54 => ?_)
      refine JD_one (i := 5) (by kernel_rfl) ?_
      refine JO_ctx (fun w hh => hh.tokf 0 rfl rfl) (tokf_owns (i := 0) rfl) ?_
      refine JO_ctx (fun w hh => hh.tokf 2 rfl rfl) (tokf_owns (i := 2) rfl) ?_
      refine JO_st rfl wn rfl (st_buildSlice_od (vs := [(.slice (some ⟨b54, 0, none⟩) 1 1), x53]) (B := ((((.slice (some ⟨b54, 0, none⟩) 1 1) : Value).ownBlock.toList ++ []) ++ (((x53 : Value).ownBlock.toList ++ []) ++ []))) ([([9] : List Int), r25] : List (List Int)) [1, 0] Tryz.underlying39 ti_27 zi_27 rfl rfl rfl rfl rfl (fun w hh => (dwv_cons (hh.dw 1 rfl) (dwv_cons (hh.dw 0 rfl) dwv_nil)))) (fun _ hk => nomatch hk) (fun b55 => ?_)
      refine JD_bnd fun r56 hr57 => ?_
      refine JD_one (i := 6) (by kernel_rfl) ?_
      refine JO_call rfl wn rfl Tryz.call45 rfl (Ca_self (fun _ => rfl) fun w hh => c_impl_joined _ w (fun _ hk => hk.elim) _ _ (hh.od0 0 rfl) _ hr57) (fun x58 => ?_)
      refine JD_bnd fun r59 hr60 => ?_
      refine JD_one (i := 9) (by kernel_rfl) ?_
      refine JO_call rfl wn rfl Tryz.call104 rfl (Ca_self (fun _ => rfl) fun w hh => c_impl_spread _ w (fun _ hk => hk.elim) _ _ (hh.rd0 8 rfl) _ _ hr60) (fun x61 => ?_)
      refine JD_one (i := 10) (by kernel_rfl) ?_
      refine JO_q rfl wn rfl (ex_build si_95 rfl (.cons fi_95_0 rfl rfl (.cons fi_95_1 rfl rfl .nil)) (fun w hh => ⟨(hh.cv_ow 1 rfl), (hh.cv_ow 0 rfl), trivial⟩)) ?_
      refine JD_one (i := 11) (by kernel_rfl) ?_
      refine JO_ctx (fun w hh => hh.tokf 1 rfl rfl) (tokf_owns (i := 1) rfl) ?_
      refine JO_ctx (fun w hh => hh.tokf 1 rfl rfl) (tokf_owns (i := 1) rfl) ?_
      refine JO_st rfl wn rfl (st_buildSlice_od (vs := [.agg #[x58, x61]]) (B := (((x58 : Value).ownBlock.toList ++ []) ++ (((x61 : Value).ownBlock.toList ++ []) ++ []))) ([(⟨r56, r59⟩ : GDomino)] : List GDomino) [1, 0] Tryz.underlying47 ti_95 zi_95 rfl rfl rfl rfl rfl (fun w hh => (dwv_cons (GDomino.dw (hh.dw 1 rfl) (hh.dw 0 rfl)) dwv_nil))) (fun _ hk => nomatch hk) (fun b62 => ?_)
      refine JD_bnd fun z63 hz64 => ?_
      refine JD_one (i := 12) (by kernel_rfl) ?_
      refine JO_st rfl wn rfl (st_append_od 10 0 Tryz.underlying47 ti_95 zi_95 rfl bi_95 rfl rfl rfl rfl rfl rfl hz64) (sub_od 0 rfl) (fun v65 => ?_)
      refine JD_take (i := 13) hp22 rfl (by kernel_rfl) (by kernel_rfl) (by kernel_rfl) wn rfl (ex_assign rfl) ?_
      refine JD_done (by kernel_rfl) ?_
      refine N_then ?_
      refine J_draw [10] (by kernel_rfl) ?_
      refine JP_take (i := 0) [0, 1, 2, 3, 4, 5, 6, 7, 8, 9, 11, 12, 13, 14] [10] rfl (by kernel_rfl) (by kernel_rfl) (by kernel_rfl) rfl rfl wn rfl (ex_move rfl) ?_
      refine JP_take (i := 1) [0, 1, 2, 3, 4, 5, 6, 7, 8, 9, 11, 12, 13, 14] [10] rfl (by kernel_rfl) (by kernel_rfl) (by kernel_rfl) rfl rfl wn rfl (ex_fieldAddr fi_95_0 rfl rfl) ?_
      refine JP_take (i := 2) [0, 1, 2, 3, 4, 5, 6, 7, 8, 9, 11, 12, 13, 14] [10] rfl (by kernel_rfl) (by kernel_rfl) (by kernel_rfl) rfl rfl wn rfl (ex_load_bx 12 ti_27 rfl rfl rfl) ?_
      refine JP_take (i := 4) [0, 1, 2, 3, 4, 5, 6, 7, 8, 9, 11, 12, 13, 14] [10] rfl (by kernel_rfl) (by kernel_rfl) (by kernel_rfl) rfl rfl wn rfl (ex_fieldAddr fi_95_1 rfl rfl) ?_
      refine JP_take (i := 5) [0, 1, 2, 3, 4, 5, 6, 7, 8, 9, 11, 12, 13, 14] [10] rfl (by kernel_rfl) (by kernel_rfl) (by kernel_rfl) rfl rfl wn rfl (ex_load_bx 12 ti_27 rfl rfl rfl) ?_
      refine JP_go [0, 1, 2, 3, 4, 5, 6, 7, 8, 9, 11, 12, 13, 14] [10] rfl rfl rfl (fun w67 h1_68 hp66 => ?_)
      refine JD_bnd fun r69 hr70 => ?_
      refine JD_one (i := 3) (by kernel_rfl) ?_
      refine JO_call rfl wn rfl Tryz.call104 rfl (Ca_self (fun _ => rfl) fun w hh => c_impl_spread _ w (fun _ hk => hk.elim) _ _ (hh.rd0 11 rfl) _ _ hr70) (fun x71 => ?_)
      refine JD_bnd fun r72 hr73 => ?_
      refine JD_one (i := 6) (by kernel_rfl) ?_
      refine JO_call rfl wn rfl Tryz.call104 rfl (Ca_self (fun _ => rfl) fun w hh => c_impl_spread _ w (fun _ hk => hk.elim) _ _ (hh.rd0 13 rfl) _ _ hr73) (fun x74 => ?_)
      refine JD_one (i := 7) (by kernel_rfl) ?_
      refine JO_q rfl wn rfl (ex_build si_95 rfl (.cons fi_95_0 rfl rfl (.cons fi_95_1 rfl rfl .nil)) (fun w hh => ⟨(hh.cv_ow 1 rfl), (hh.cv_ow 0 rfl), trivial⟩)) ?_
      refine JD_one (i := 8) (by kernel_rfl) ?_
      refine JO_ctx (fun w hh => hh.tokf 1 rfl rfl) (tokf_owns (i := 1) rfl) ?_
      refine JO_ctx (fun w hh => hh.tokf 1 rfl rfl) (tokf_owns (i := 1) rfl) ?_
      refine JO_st rfl wn rfl (st_buildSlice_od (vs := [.agg #[x71, x74]]) (B := (((x71 : Value).ownBlock.toList ++ []) ++ (((x74 : Value).ownBlock.toList ++ []) ++ []))) ([(⟨r69, r72⟩ : GDomino)] : List GDomino) [1, 0] Tryz.underlying47 ti_95 zi_95 rfl rfl rfl rfl rfl (fun w hh => (dwv_cons (GDomino.dw (hh.dw 1 rfl) (hh.dw 0 rfl)) dwv_nil))) (fun _ hk => nomatch hk) (fun b75 => ?_)
      refine JD_bnd fun z76 hz77 => ?_
      refine JD_one (i := 9) (by kernel_rfl) ?_
      refine JO_st rfl wn rfl (st_append_od 15 0 Tryz.underlying47 ti_95 zi_95 rfl bi_95 rfl rfl rfl rfl rfl rfl hz77) (sub_od 0 rfl) (fun v78 => ?_)
      refine JD_take (i := 10) hp66 rfl (by kernel_rfl) (by kernel_rfl) (by kernel_rfl) wn rfl (ex_assign rfl) ?_
      refine JD_done (by kernel_rfl) ?_
      refine N_block ?_
      refine N_then ?_
      refine J_region ?_
      refine JL_q wn rfl (ex_add rfl rfl) ?_
      refine JM rfl rfl ?_
      refine JL_nil ?_
      exact N_next' (v78, ((g3_1 ++ (((x58 : Value).ownBlock.toList ++ []) ++ (((x61 : Value).ownBlock.toList ++ []) ++ []))) ++ (((x71 : Value).ownBlock.toList ++ []) ++ (((x74 : Value).ownBlock.toList ++ []) ++ [])))) ⟨rfl, rfl, rfl, rfl, trivial⟩ [15, 19] rfl rfl
    ·refine J_skip ?_
     refine N_then ?_
     refine J_draw [0] (by kernel_rfl) ?_
     refine JP_take (i := 0) [1, 2, 3, 4] [0] rfl (by kernel_rfl) (by kernel_rfl) (by kernel_rfl) rfl rfl wn rfl (ex_move rfl) ?_
     refine JP_take (i := 1) [1, 2, 3, 4] [0] rfl (by kernel_rfl) (by kernel_rfl) (by kernel_rfl) rfl rfl wn rfl (ex_fieldAddr fi_95_0 rfl rfl) ?_
     refine JP_take (i := 2) [1, 2, 3, 4] [0] rfl (by kernel_rfl) (by kernel_rfl) (by kernel_rfl) rfl rfl wn rfl (ex_load_bx 2 ti_27 rfl rfl rfl) ?_
     refine JP_take (i := 4) [1, 2, 3, 4] [0] rfl (by kernel_rfl) (by kernel_rfl) (by kernel_rfl) rfl rfl wn rfl (ex_fieldAddr fi_95_1 rfl rfl) ?_
     refine JP_take (i := 5) [1, 2, 3, 4] [0] rfl (by kernel_rfl) (by kernel_rfl) (by kernel_rfl) rfl rfl wn rfl (ex_load_bx 2 ti_27 rfl rfl rfl) ?_
     refine JP_go [1, 2, 3, 4] [0] rfl rfl rfl (fun w80 h1_81 hp79 => ?_)
     refine JD_bnd fun r82 hr83 => ?_
     refine JD_one (i := 3) (by kernel_rfl) ?_
     refine JO_call rfl wn rfl Tryz.call104 rfl (Ca_self (fun _ => rfl) fun w hh => c_impl_spread _ w (fun _ hk => hk.elim) _ _ (hh.rd0 1 rfl) _ _ hr83) (fun x84 => ?_)
     refine JD_bnd fun r85 hr86 => ?_
     refine JD_one (i := 6) (by kernel_rfl) ?_
     refine JO_call rfl wn rfl Tryz.call104 rfl (Ca_self (fun _ => rfl) fun w hh => c_impl_spread _ w (fun _ hk => hk.elim) _ _ (hh.rd0 3 rfl) _ _ hr86) (fun x87 => ?_)
     refine JD_one (i := 7) (by kernel_rfl) ?_
     refine JO_q rfl wn rfl (ex_build si_95 rfl (.cons fi_95_0 rfl rfl (.cons fi_95_1 rfl rfl .nil)) (fun w hh => ⟨(hh.cv_ow 1 rfl), (hh.cv_ow 0 rfl), trivial⟩)) ?_
     refine JD_one (i := 8) (by kernel_rfl) ?_
     refine JO_ctx (fun w hh => hh.tokf 1 rfl rfl) (tokf_owns (i := 1) rfl) ?_
     refine JO_ctx (fun w hh => hh.tokf 1 rfl rfl) (tokf_owns (i := 1) rfl) ?_
     refine JO_st rfl wn rfl (st_buildSlice_od (vs := [.agg #[x84, x87]]) (B := (((x84 : Value).ownBlock.toList ++ []) ++ (((x87 : Value).ownBlock.toList ++ []) ++ []))) ([(⟨r82, r85⟩ : GDomino)] : List GDomino) [1, 0] Tryz.underlying47 ti_95 zi_95 rfl rfl rfl rfl rfl (fun w hh => (dwv_cons (GDomino.dw (hh.dw 1 rfl) (hh.dw 0 rfl)) dwv_nil))) (fun _ hk => nomatch hk) (fun b88 => ?_)
     refine JD_bnd fun z89 hz90 => ?_
     refine JD_one (i := 9) (by kernel_rfl) ?_
     refine JO_st rfl wn rfl (st_append_od 5 0 Tryz.underlying47 ti_95 zi_95 rfl bi_95 rfl rfl rfl rfl rfl rfl hz90) (sub_od 0 rfl) (fun v91 => ?_)
     refine JD_take (i := 10) hp79 rfl (by kernel_rfl) (by kernel_rfl) (by kernel_rfl) wn rfl (ex_assign rfl) ?_
     refine JD_done (by kernel_rfl) ?_
     refine N_block ?_
     refine N_then ?_
     refine J_region ?_
     refine JL_q wn rfl (ex_add rfl rfl) ?_
     refine JM rfl rfl ?_
     refine JL_nil ?_
     exact N_next' (v91, (g3_1 ++ (((x84 : Value).ownBlock.toList ++ []) ++ (((x87 : Value).ownBlock.toList ++ []) ++ [])))) ⟨rfl, rfl, rfl, rfl, trivial⟩ [5, 9] rfl rfl
  ·refine J_exit ?_
   refine N_then_exit ?_
   exact N_break' (g3_0, g3_1) ⟨rfl, rfl, rfl, rfl, trivial⟩ [0, 1] rfl rfl
 ·obtain ⟨g3_0, g3_1⟩ := g3
  refine N_then ?_
  refine J_sr ?_
  refine JM rfl rfl ?_
  refine JL_st wn rfl (st_buildSlice (vs := [.int .i64 8]) ([8] : List Int) Tryz.underlying27 ti_2 zi_2 rfl rfl rfl (fun w hh => ⟨(Rd.mk_int _ _ _), trivial⟩)) (fun b92 => ?_)
  refine JL_st wn rfl (st_buildSlice (vs := [.int .i64 9, .int .i64 8]) ([9, 8] : List Int) Tryz.underlying27 ti_2 zi_2 rfl rfl rfl (fun w hh => ⟨(Rd.mk_int _ _ _), (Rd.mk_int _ _ _), trivial⟩)) (fun b93 => ?_)
  refine JL_q wn rfl (ex_build si_95 rfl (.cons fi_95_0 rfl rfl (.cons fi_95_1 rfl rfl .nil)) (fun w hh => ⟨(hh.cv_ow 1 rfl), (hh.cv_ow 0 rfl), trivial⟩)) ?_
  refine JL_ctx (fun w hh => hh.tokf 1 rfl rfl) ?_
  refine JL_ctx (fun w hh => hh.tokf 1 rfl rfl) ?_
  refine JL_st wn rfl (st_buildSlice_od (vs := [.agg #[(.slice (some ⟨b92, 0, none⟩) 1 1), (.slice (some ⟨b93, 0, none⟩) 2 2)]]) (B := ((((.slice (some ⟨b92, 0, none⟩) 1 1) : Value).ownBlock.toList ++ []) ++ ((((.slice (some ⟨b93, 0, none⟩) 2 2) : Value).ownBlock.toList ++ []) ++ []))) ([(⟨([8] : List Int), ([9, 8] : List Int)⟩ : GDomino)] : List GDomino) [1, 0] Tryz.underlying47 ti_95 zi_95 rfl rfl rfl rfl rfl (fun w hh => (dwv_cons (GDomino.dw (hh.dw 1 rfl) (hh.dw 0 rfl)) dwv_nil))) (fun b94 => ?_)
  refine JL_bnd fun z95 hz96 => ?_
  refine JL_st wn rfl (st_append_od 5 0 Tryz.underlying47 ti_95 zi_95 rfl bi_95 rfl rfl rfl rfl rfl rfl hz96) (fun v97 => ?_)
  refine JA rfl rfl ?_
  refine JL_nt ?_
  refine J_seq ?_
  refine J_sr ?_
  refine JM rfl rfl ?_
  refine JL_bnd fun r98 hr99 => ?_
  refine JL_call wn rfl Tryz.call57 rfl (Ca_of0 fun w hh => c_impl_ValidDominoes _ w (fun _ hk => hk.elim) _ _ (hh.od0 5 rfl) _ hr99) (fun _ => ?_)
  refine JL_q wn rfl (ex_not rfl) ?_
  refine JL_nt ?_
  refine J_if rfl (fun h100 => ?_) (fun h100 => ?_)
  ·refine J_sr ?_
   refine JA rfl rfl ?_
   refine JA rfl rfl ?_
   refine JL_nt ?_
   refine J_ret ?_
   refine N_then_ret ?_
   refine N_ctx (fun w hh => SH.od_nil (α := GDomino) 95 hh) ?_
   exact N_ret2 rfl (rv_tmp rfl) (rv_tmp rfl) (fun w hh => ⟨((.slice none 0 0 : Value), ([] : List Nat)), rfl, hh.sel [0] rfl⟩)
  ·refine J_skip ?_
   refine N_then ?_
   refine J_sr ?_
   refine JM rfl rfl ?_
   refine JA rfl rfl ?_
   refine JA rfl rfl ?_
   refine JL_nt ?_
   refine J_ret ?_
   exact N_ret2 rfl (rv_tmp rfl) (rv_tmp rfl) (fun w hh => ⟨(v97, (g3_1 ++ ((((.slice (some ⟨b92, 0, none⟩) 1 1) : Value).ownBlock.toList ++ []) ++ ((((.slice (some ⟨b93, 0, none⟩) 2 2) : Value).ownBlock.toList ++ []) ++ [])))), rfl, hh.sel [5] rfl⟩)
set_option maxHeartbeats 40000000 in
theorem c_impl_PlainDominoes (A : Nat → Prop) (w : World) (hA : ∀ k, A k → k < w.heap.size) (v0_ : Value) (p0 : (List GDomino)) (hp0 : Rd A w v0_ p0) (r : (List GDomino) × Int) (hr : F_impl_PlainDominoes p0 = some r) :
  Con Tryz.prog 16 [v0_] A w (fun x_ : Value × List Nat => .tuple #[x_.1, .int .i64 r.2]) (fun x_ => [.od 95 x_.1 r.1 x_.2]) := by
 refine Con_of (v := fun (r : (List GDomino) × Int) (x_ : Value × List Nat) => .tuple #[x_.1, .int .i64 r.2]) (fs := fun r x_ => [.od 95 x_.1 r.1 x_.2]) Tryz.func16 rfl Tryz.ntmps16 rfl ((SH.start hA).start_rd rfl hp0) rfl ?_ hr
 unfold F_impl_PlainDominoes
 refine J_sr ?_
 refine JA rfl rfl ?_
 refine JA rfl rfl ?_
 refine JL_nt ?_
 refine J_seq ?_
 refine J_sr ?_
 refine JM rfl rfl ?_
 refine JL_bnd fun r1 hr2 => ?_
 refine JL_call wn rfl Tryz.call57 rfl (Ca_of0 fun w hh => c_impl_ValidDominoes _ w (fun _ hk => hk.elim) _ _ (hh.rd0 0 rfl) _ hr2) (fun _ => ?_)
 refine JL_q wn rfl (ex_not rfl) ?_
 refine JL_nt ?_
 refine J_if rfl (fun h3 => ?_) (fun h3 => ?_)
 ·refine J_sr ?_
  refine JA rfl rfl ?_
  refine JA rfl rfl ?_
  refine JL_nt ?_
  refine J_ret ?_
  refine N_then_ret ?_
  refine N_ctx (fun w hh => SH.od_nil (α := GDomino) 95 hh) ?_
  exact N_ret2 rfl (rv_tmp rfl) (rv_tmp rfl) (fun w hh => ⟨((.slice none 0 0 : Value), ([] : List Nat)), rfl, hh.sel [0] rfl⟩)
 ·refine J_skip ?_
  refine N_then ?_
  refine J_sr ?_
  refine JM rfl rfl ?_
  refine JL_bnd fun r4 hr5 => ?_
  refine JL_call wn rfl Tryz.call58 rfl (Ca_self (fun _ => rfl) fun w hh => c_impl_plainDominoes _ w (fun _ hk => hk.elim) _ _ (hh.rd0 0 rfl) _ hr5) (fun x6 => ?_)
  obtain ⟨x6_0, x6_1⟩ := x6
  refine JL_q wn rfl (ex_extract rfl rfl) ?_
  refine JL_q wn rfl (ex_extract rfl rfl) ?_
  refine JA rfl rfl ?_
  refine JA rfl rfl ?_
  refine JL_nt ?_
  refine J_ret ?_
  exact N_ret2 rfl (rv_tmp rfl) (rv_tmp rfl) (fun w hh => ⟨(x6_0, x6_1), rfl, hh.sel [0] rfl⟩)
set_option maxHeartbeats 40000000 in
theorem c_impl_matchRange (A : Nat → Prop) (w : World) (hA : ∀ k, A k → k < w.heap.size) (v0_ : Value) (p0 : (List GDomino)) (hp0 : Rd A w v0_ p0) (v1_ : Value) (p1 : (List Int)) (hp1 : Rd A w v1_ p1) (r : Bool) (hr : F_impl_matchRange p0 p1 = some r) :
  Con Tryz.prog 105 [v0_, v1_] A w (fun x_ : Unit => .bool r) (fun x_ => []) := by
 refine Con_of (v := fun (r : Bool) (x_ : Unit) => .bool r) (fs := fun r x_ => []) Tryz.func105 rfl Tryz.ntmps105 rfl (((SH.start hA).start_rd rfl hp0).start_rd rfl hp1) rfl ?_ hr
 unfold F_impl_matchRange
 refine J_sr ?_
 refine JA rfl rfl ?_
 refine JL_nt ?_
 refine J_sr ?_
 refine JM rfl rfl ?_
 refine JL_bnd fun r1 hr2 => ?_
 refine JL_call wn rfl Tryz.call94 rfl (Ca_of0 fun w hh => c_impl_size_int64 _ w (fun _ hk => hk.elim) _ _ (hh.rd0 0 rfl) _ hr2) (fun _ => ?_)
 refine JL_bnd fun r3 hr4 => ?_
 refine JL_call wn rfl Tryz.call64 rfl (Ca_of0 fun w hh => c_impl_within _ w (fun _ hk => hk.elim) _ _ _ _ hr4) (fun _ => ?_)
 refine JM rfl rfl ?_
 refine JL_cond (fun h5 => ?_) (fun h5 => ?_)
 ·refine JL_q (wants_some rfl rfl rfl h5) rfl (ex_move rfl) ?_
  refine JL_q (wants_some rfl rfl rfl h5) rfl (ex_move rfl) ?_
  refine JL_bnd fun r6 hr7 => ?_
  refine JL_call (wants_some rfl rfl rfl h5) rfl Tryz.call49 rfl (Ca_of0 fun w hh => c_impl_size_impl_Domino _ w (fun _ hk => hk.elim) _ _ (hh.rd0 1 rfl) _ hr7) (fun _ => ?_)
  refine JL_q (wants_some rfl rfl rfl h5) rfl (ex_sub rfl rfl) ?_
  refine JL_bnd fun r8 hr9 => ?_
  refine JL_call (wants_some rfl rfl rfl h5) rfl Tryz.call81 rfl (Ca_of0 fun w hh => c_impl_allWithin _ w (fun _ hk => hk.elim) _ _ (hh.rd0 0 rfl) _ _ _ hr9) (fun _ => ?_)
  refine JL_q wn rfl (ex_pick_true rfl h5 rfl) ?_
  refine JA rfl rfl ?_
  refine JL_nt ?_
  refine J_ret ?_
  exact N_ret1 rfl (rv_tmp rfl) (fun w hh => ⟨(), rfl, hh.sel [] rfl⟩)
 ·refine JL_passed rfl rfl rfl h5 ?_
  refine JL_passed rfl rfl rfl h5 ?_
  refine JL_passed rfl rfl rfl h5 ?_
  refine JL_passed rfl rfl rfl h5 ?_
  refine JL_passed rfl rfl rfl h5 ?_
  refine JL_q wn rfl (ex_pick_false rfl h5 rfl) ?_
  refine JA rfl rfl ?_
  refine JL_nt ?_
  refine J_ret ?_
  exact N_ret1 rfl (rv_tmp rfl) (fun w hh => ⟨(), rfl, hh.sel [] rfl⟩)
set_option maxHeartbeats 40000000 in
theorem c_impl_matchWord (A : Nat → Prop) (w : World) (hA : ∀ k, A k → k < w.heap.size) (v0_ : Value) (p0 : (List GDomino)) (hp0 : Rd A w v0_ p0) (v1_ : Value) (p1 : (List Int)) (hp1 : Rd A w v1_ p1) (r : (List Int) × Int) (hr : F_impl_matchWord p0 p1 = some r) :
  Con Tryz.prog 59 [v0_, v1_] A w (fun x_ : Value => .tuple #[x_, .int .i64 r.2]) (fun x_ => [.ow 2 x_ r.1]) := by
 refine Con_of (v := fun (r : (List Int) × Int) (x_ : Value) => .tuple #[x_, .int .i64 r.2]) (fs := fun r x_ => [.ow 2 x_ r.1]) Tryz.func59 rfl Tryz.ntmps59 rfl (((SH.start hA).start_rd rfl hp0).start_rd rfl hp1) rfl ?_ hr
 unfold F_impl_matchWord
 refine J_sr ?_
 refine JA rfl rfl ?_
 refine JA rfl rfl ?_
 refine JL_nt ?_
 refine J_seq ?_
 refine J_sr ?_
 refine JM rfl rfl ?_
 refine JM rfl rfl ?_
 refine JL_bnd fun r1 hr2 => ?_
 refine JL_call wn rfl Tryz.call105 rfl (Ca_of0 fun w hh => c_impl_matchRange _ w (fun _ hk => hk.elim) _ _ (hh.rd0 1 rfl) _ _ (hh.rd0 0 rfl) _ hr2) (fun _ => ?_)
 refine JL_q wn rfl (ex_not rfl) ?_
 refine JL_nt ?_
 refine J_if rfl (fun h3 => ?_) (fun h3 => ?_)
 ·refine J_sr ?_
  refine JA rfl rfl ?_
  refine JA rfl rfl ?_
  refine JL_nt ?_
  refine J_ret ?_
  refine N_then_ret ?_
  refine N_ctx (fun w hh => SH.ow_nil (α := Int) 2 hh) ?_
  exact N_ret2 rfl (rv_tmp rfl) (rv_tmp rfl) (fun w hh => ⟨(.slice none 0 0 : Value), rfl, hh.sel [0] rfl⟩)
 ·refine J_skip ?_
  refine N_then ?_
  refine J_sr ?_
  refine JL_st wn rfl (st_buildSlice (vs := []) ([] : List Int) Tryz.underlying27 ti_2 zi_2 rfl rfl rfl (fun w hh => trivial)) (fun b4 => ?_)
  refine JL_st wn rfl (st_buildSlice (vs := []) ([] : List Int) Tryz.underlying27 ti_2 zi_2 rfl rfl rfl (fun w hh => trivial)) (fun b5 => ?_)
  refine JA rfl rfl ?_
  refine JA rfl rfl ?_
  refine JL_nt ?_
  refine J_seq ?_
  refine J_sr ?_
  refine JM rfl rfl ?_
  refine JL_q wn rfl (ex_len_rd 2 Tryz.underlying27 rfl rfl) ?_
  refine JM rfl rfl ?_
  refine JL_nt ?_
  refine J_loop' (S := (List Int) × (List Int) × Int) (G := Value × Value) (F_impl_matchWord_L1 p0 p1) (fun s6 g7 => [(0, v0_), (6, g7.1), (7, g7.2), (16, v1_), (17, .int .i64 (p1.length : Int)), (18, .int .i64 s6.2.2)]) (fun s6 g7 => [.rd v0_ p0, .ow 2 g7.1 s6.1, .ow 2 g7.2 s6.2.1, .rd v1_ p1]) (([] : List Int), ([] : List Int), 0) ((.slice (some ⟨b4, 0, none⟩) 0 0), (.slice (some ⟨b5, 0, none⟩) 0 0)) ⟨rfl, rfl, rfl, rfl, rfl, rfl, trivial⟩ [3, 1, 0, 2] rfl rfl (fun s6 g7 => ?_) (fun s6 g7 => ?_)
  ·obtain ⟨g7_0, g7_1⟩ := g7
   unfold F_impl_matchWord_L1
   refine J_sr ?_
   refine JL_q wn rfl (ex_lss rfl rfl) ?_
   refine JL_nt ?_
   refine J_seq ?_
   refine J_if rfl (fun h8 => ?_) (fun h8 => ?_)
   ·refine J_skip ?_
    refine N_then ?_
    refine J_seq ?_
    refine J_block ?_
    refine J_sr ?_
    refine JL_bnd fun y9 hy10 => ?_
    refine JL_st wn rfl (st_index 3 Tryz.underlying27 ti_2 rfl rfl rfl hy10) (fun q11 => ?_)
    refine JL_st wn rfl (st_load_pt_o 0 (opens_int _) ti_2 rfl rfl) (fun _ => ?_)
    refine JA rfl rfl ?_
    refine JL_nt ?_
    refine J_draw [2, 3] (by kernel_rfl) ?_
    refine JP_take (i := 0) [0, 1, 4] [2, 3] rfl (by kernel_rfl) (by kernel_rfl) (by kernel_rfl) rfl rfl wn rfl (ex_move rfl) ?_
    refine JP_take (i := 1) [0, 1, 4] [2, 3] rfl (by kernel_rfl) (by kernel_rfl) (by kernel_rfl) rfl rfl wn rfl (ex_move rfl) ?_
    refine JP_take (i := 2) [0, 1, 4] [2, 3] rfl (by kernel_rfl) (by kernel_rfl) (by kernel_rfl) rfl rfl wn rfl (ex_move rfl) ?_
    refine JP_bnd fun y13 hy14 => ?_
    refine JP_sq (i := 3) [2, 3] rfl (by kernel_rfl) (by kernel_rfl) (by kernel_rfl) rfl wn rfl (sq_index 1 Tryz.underlying47 ti_95 rfl rfl rfl hy14) (fun q15 => ?_)
    refine JP_sq (i := 4) [3, 4] rfl (by kernel_rfl) (by kernel_rfl) (by kernel_rfl) rfl wn rfl (sq_field_pt 0 (GDomino.at_Top _) fi_95_0 rfl rfl rfl) (fun q16 => ?_)
    refine JP_sq (i := 5) [4, 5] rfl (by kernel_rfl) (by kernel_rfl) (by kernel_rfl) rfl wn rfl (sq_load_pt_o 0 (opens_sl _) ti_27 rfl rfl) (fun v17 => ?_)
    refine JP_take (i := 7) [0, 1, 2, 3, 4, 7] [5, 6] rfl (by kernel_rfl) (by kernel_rfl) (by kernel_rfl) rfl rfl wn rfl (ex_move rfl) ?_
    refine JP_take (i := 8) [0, 1, 2, 3, 4, 7] [5, 6] rfl (by kernel_rfl) (by kernel_rfl) (by kernel_rfl) rfl rfl wn rfl (ex_move rfl) ?_
    refine JP_take (i := 9) [0, 1, 2, 3, 4, 7] [5, 6] rfl (by kernel_rfl) (by kernel_rfl) (by kernel_rfl) rfl rfl wn rfl (ex_move rfl) ?_
    refine JP_bnd fun y18 hy19 => ?_
    refine JP_sq (i := 10) [5, 6] rfl (by kernel_rfl) (by kernel_rfl) (by kernel_rfl) rfl wn rfl (sq_index 4 Tryz.underlying47 ti_95 rfl rfl rfl hy19) (fun q20 => ?_)
    refine JP_sq (i := 11) [6, 7] rfl (by kernel_rfl) (by kernel_rfl) (by kernel_rfl) rfl wn rfl (sq_field_pt 0 (GDomino.at_Bottom _) fi_95_1 rfl rfl rfl) (fun q21 => ?_)
    refine JP_sq (i := 12) [7, 8] rfl (by kernel_rfl) (by kernel_rfl) (by kernel_rfl) rfl wn rfl (sq_load_pt_o 0 (opens_sl _) ti_27 rfl rfl) (fun v22 => ?_)
    refine JP_go [0, 1, 2, 3, 4, 5, 6, 7, 10] [8, 9] rfl rfl rfl (fun w24 h1_25 hp23 => ?_)
    refine JD_bnd fun z26 hz27 => ?_
    refine JD_one (i := 6) (by kernel_rfl) ?_
    refine JO_st rfl wn rfl (st_append 8 Tryz.underlying27 ti_2 zi_2 rfl bi_2 rfl rfl rfl rfl (fun w hh => hh.src_rd 3 rfl) hz27) (sub_ow 0 rfl) (fun v28 => ?_)
    refine JD_bnd fun z29 hz30 => ?_
    refine JD_one (i := 13) (by kernel_rfl) ?_
    refine JO_st rfl wn rfl (st_append 9 Tryz.underlying27 ti_2 zi_2 rfl bi_2 rfl rfl rfl rfl (fun w hh => hh.src_rd 0 rfl) hz30) (sub_ow 1 rfl) (fun v31 => ?_)
    refine JD_take (i := 14) hp23 rfl (by kernel_rfl) (by kernel_rfl) (by kernel_rfl) wn rfl (ex_assign rfl) ?_
    refine JD_take (i := 15) hp23 rfl (by kernel_rfl) (by kernel_rfl) (by kernel_rfl) wn rfl (ex_assign rfl) ?_
    refine JD_done (by kernel_rfl) ?_
    refine N_block ?_
    refine N_then ?_
    refine J_region ?_
    refine JL_q wn rfl (ex_add rfl rfl) ?_
    refine JM rfl rfl ?_
    refine JL_nil ?_
    exact N_next' (v28, v31) ⟨rfl, rfl, rfl, rfl, rfl, rfl, trivial⟩ [7, 8, 9, 10] rfl rfl
   ·refine J_exit ?_
    refine N_then_exit ?_
    exact N_break' (g7_0, g7_1) ⟨rfl, rfl, rfl, rfl, rfl, rfl, trivial⟩ [0, 1, 2, 3] rfl rfl
  ·obtain ⟨g7_0, g7_1⟩ := g7
   refine N_then ?_
   refine J_seq ?_
   refine J_block ?_
   refine J_sr ?_
   refine JM rfl rfl ?_
   refine JL_q wn rfl (ex_len_ow 1 Tryz.underlying27 rfl rfl) ?_
   refine JL_q wn rfl (ex_gtr rfl rfl) ?_
   refine JM rfl rfl ?_
   refine JL_cond (fun h32 => ?_) (fun h32 => ?_)
   ·refine JL_passed rfl rfl rfl h32 ?_
    refine JL_passed rfl rfl rfl h32 ?_
    refine JL_passed rfl rfl rfl h32 ?_
    refine JL_q wn rfl (ex_pick_true rfl h32 rfl) ?_
    refine JA rfl rfl ?_
    refine JL_nt ?_
    refine J_if_true rfl rfl ?_
    refine J_sr ?_
    refine JA rfl rfl ?_
    refine JA rfl rfl ?_
    refine JL_nt ?_
    refine J_ret ?_
    refine N_block_ret ?_
    refine N_then_ret ?_
    refine N_ctx (fun w hh => SH.ow_nil (α := Int) 2 hh) ?_
    exact N_ret2 rfl (rv_tmp rfl) (rv_tmp rfl) (fun w hh => ⟨(.slice none 0 0 : Value), rfl, hh.sel [0] rfl⟩)
   ·refine JL_q (wants_some rfl rfl rfl h32) rfl (ex_move rfl) ?_
    refine JL_q (wants_some rfl rfl rfl h32) rfl (ex_len_ow 2 Tryz.underlying27 rfl rfl) ?_
    refine JL_q (wants_some rfl rfl rfl h32) rfl (ex_gtr rfl rfl) ?_
    refine JL_q wn rfl (ex_pick_false rfl h32 rfl) ?_
    refine JA rfl rfl ?_
    refine JL_nt ?_
    refine J_if rfl (fun h33 => ?_) (fun h33 => ?_)
    ·refine J_sr ?_
     refine JA rfl rfl ?_
     refine JA rfl rfl ?_
     refine JL_nt ?_
     refine J_ret ?_
     refine N_block_ret ?_
     refine N_then_ret ?_
     refine N_ctx (fun w hh => SH.ow_nil (α := Int) 2 hh) ?_
     exact N_ret2 rfl (rv_tmp rfl) (rv_tmp rfl) (fun w hh => ⟨(.slice none 0 0 : Value), rfl, hh.sel [0] rfl⟩)
    ·refine J_sr ?_
     refine JM rfl rfl ?_
     refine JM rfl rfl ?_
     refine JL_bnd fun r34 hr35 => ?_
     refine JL_call wn rfl Tryz.call42 rfl (Ca_of0 fun w hh => c_slices_Equal_Sint64_int64 _ w (fun _ hk => hk.elim) _ _ (hh.ow0 1 rfl) _ _ (hh.ow0 2 rfl) _ hr35) (fun _ => ?_)
     refine JL_q wn rfl (ex_not rfl) ?_
     refine JA rfl rfl ?_
     refine JL_nt ?_
     refine J_if rfl (fun h36 => ?_) (fun h36 => ?_)
     ·refine J_sr ?_
      refine JA rfl rfl ?_
      refine JA rfl rfl ?_
      refine JL_nt ?_
      refine J_ret ?_
      refine N_block_ret ?_
      refine N_then_ret ?_
      refine N_ctx (fun w hh => SH.ow_nil (α := Int) 2 hh) ?_
      exact N_ret2 rfl (rv_tmp rfl) (rv_tmp rfl) (fun w hh => ⟨(.slice none 0 0 : Value), rfl, hh.sel [0] rfl⟩)
     ·refine J_skip ?_
      refine N_block ?_
      refine N_then ?_
      refine J_sr ?_
      refine JM rfl rfl ?_
      refine JA rfl rfl ?_
      refine JA rfl rfl ?_
      refine JL_nt ?_
      refine J_ret ?_
      exact N_ret2 rfl (rv_tmp rfl) (rv_tmp rfl) (fun w hh => ⟨g7_0, rfl, hh.sel [1] rfl⟩)
set_option maxHeartbeats 40000000 in
theorem c_impl_PlainMatch (A : Nat → Prop) (w : World) (hA : ∀ k, A k → k < w.heap.size) (v0_ : Value) (p0 : (List GDomino)) (hp0 : Rd A w v0_ p0) (v1_ : Value) (p1 : (List Int)) (hp1 : Rd A w v1_ p1) (r : (List Int) × Int) (hr : F_impl_PlainMatch p0 p1 = some r) :
  Con Tryz.prog 17 [v0_, v1_] A w (fun x_ : Value × List Nat => .tuple #[x_.1, .int .i64 r.2]) (fun x_ => [.tkn x_.1 r.1 x_.2]) := by
 refine Con_of (v := fun (r : (List Int) × Int) (x_ : Value × List Nat) => .tuple #[x_.1, .int .i64 r.2]) (fs := fun r x_ => [.tkn x_.1 r.1 x_.2]) Tryz.func17 rfl Tryz.ntmps17 rfl (((SH.start hA).start_rd rfl hp0).start_rd rfl hp1) rfl ?_ hr
 unfold F_impl_PlainMatch
 refine J_sr ?_
 refine JA rfl rfl ?_
 refine JA rfl rfl ?_
 refine JL_nt ?_
 refine J_sr ?_
 refine JM rfl rfl ?_
 refine JL_bnd fun r1 hr2 => ?_
 refine JL_call wn rfl Tryz.call16 rfl (Ca_self (fun _ => rfl) fun w hh => c_impl_PlainDominoes _ w (fun _ hk => hk.elim) _ _ (hh.rd0 1 rfl) _ hr2) (fun x3 => ?_)
 obtain ⟨x3_0, x3_1⟩ := x3
 refine JM rfl rfl ?_
 refine JL_q wn rfl (ex_extract rfl rfl) ?_
 refine JL_q wn rfl (ex_extract rfl rfl) ?_
 refine JA rfl rfl ?_
 refine JA rfl rfl ?_
 refine JL_nt ?_
 refine J_seq ?_
 refine J_sr ?_
 refine JM rfl rfl ?_
 refine JL_q wn rfl (ex_neq rfl rfl) ?_
 refine JL_nt ?_
 refine J_if rfl (fun h4 => ?_) (fun h4 => ?_)
 ·refine J_sr ?_
  refine JM rfl rfl ?_
  refine JA rfl rfl ?_
  refine JA rfl rfl ?_
  refine JL_nt ?_
  refine J_ret ?_
  refine N_then_ret ?_
  refine N_ctx (fun w hh => SH.ow_nil (α := Int) 2 hh) ?_
  refine N_ctx (fun w hh => hh.tokf 0 rfl rfl) ?_
  exact N_ret2 rfl (rv_tmp rfl) (rv_tmp rfl) (fun w hh => ⟨((.slice none 0 0 : Value), ((.slice none 0 0 : Value).ownBlock.toList ++ [])), rfl, hh.sel [0] rfl⟩)
 ·refine J_skip ?_
  refine N_then ?_
  refine J_seq ?_
  refine J_sr ?_
  refine JM rfl rfl ?_
  refine JM rfl rfl ?_
  refine JL_bnd fun r5 hr6 => ?_
  refine JL_call wn rfl Tryz.call59 rfl (Ca_self (fun _ => rfl) fun w hh => c_impl_matchWord _ w (fun _ hk => hk.elim) _ _ (hh.rd0 2 rfl) _ _ (hh.rd0 1 rfl) _ hr6) (fun x7 => ?_)
  refine JM rfl rfl ?_
  refine JL_q wn rfl (ex_extract rfl rfl) ?_
  refine JL_q wn rfl (ex_extract rfl rfl) ?_
  refine JA rfl rfl ?_
  refine JA rfl rfl ?_
  refine JL_nt ?_
  refine J_sr ?_
  refine JM rfl rfl ?_
  refine JL_q wn rfl (ex_neq rfl rfl) ?_
  refine JL_nt ?_
  refine J_if rfl (fun h8 => ?_) (fun h8 => ?_)
  ·refine J_sr ?_
   refine JM rfl rfl ?_
   refine JA rfl rfl ?_
   refine JA rfl rfl ?_
   refine JL_nt ?_
   refine J_ret ?_
   refine N_then_ret ?_
   refine N_ctx (fun w hh => SH.ow_nil (α := Int) 2 hh) ?_
   refine N_ctx (fun w hh => hh.tokf 0 rfl rfl) ?_
   exact N_ret2 rfl (rv_tmp rfl) (rv_tmp rfl) (fun w hh => ⟨((.slice none 0 0 : Value), ((.slice none 0 0 : Value).ownBlock.toList ++ [])), rfl, hh.sel [0] rfl⟩)
  ·refine J_skip ?_
   refine N_then ?_
   refine J_seq ?_
   refine J_sr ?_
   refine JM rfl rfl ?_
   refine JL_bnd fun y9 hy10 => ?_
   refine JL_st wn rfl (st_index 2 Tryz.underlying27 ti_2 rfl rfl rfl hy10) (fun q11 => ?_)
   refine JL_st wn rfl (st_load_pt_o 0 (opens_int _) ti_2 rfl rfl) (fun _ => ?_)
   refine JL_q wn rfl (ex_neq rfl rfl) ?_
   refine JL_nt ?_
   refine J_if rfl (fun h13 => ?_) (fun h13 => ?_)
   ·refine J_sr ?_
    refine JA rfl rfl ?_
    refine JA rfl rfl ?_
    refine JL_nt ?_
    refine J_ret ?_
    refine N_then_ret ?_
    refine N_ctx (fun w hh => SH.ow_nil (α := Int) 2 hh) ?_
    refine N_ctx (fun w hh => hh.tokf 0 rfl rfl) ?_
    exact N_ret2 rfl (rv_tmp rfl) (rv_tmp rfl) (fun w hh => ⟨((.slice none 0 0 : Value), ((.slice none 0 0 : Value).ownBlock.toList ++ [])), rfl, hh.sel [0] rfl⟩)
   ·refine J_skip ?_
    refine N_then ?_
    refine J_sr ?_
    refine JL_st wn rfl (st_buildSlice (vs := [.int .i64 0]) ([0] : List Int) Tryz.underlying27 ti_2 zi_2 rfl rfl rfl (fun w hh => ⟨(Rd.mk_int _ _ _), trivial⟩)) (fun b14 => ?_)
    refine JM rfl rfl ?_
    refine JL_bnd fun z15 hz16 => ?_
    refine JL_st wn rfl (st_slice 4 Tryz.underlying27 ti_2 rfl rfl rfl rfl hz16) (fun v17 => ?_)
    refine JL_bnd fun r18 hr19 => ?_
    refine JL_call wn rfl Tryz.call46 rfl (Ca_self (fun _ => rfl) fun w hh => c_impl_moved _ w (fun _ hk => hk.elim) _ _ (hh.rd0 0 rfl) _ _ hr19) (fun x20 => ?_)
    refine JM rfl rfl ?_
    refine JL_bnd fun r21 hr22 => ?_
    refine JL_call wn rfl Tryz.call49 rfl (Ca_of0 fun w hh => c_impl_size_impl_Domino _ w (fun _ hk => hk.elim) _ _ (hh.od0 5 rfl) _ hr22) (fun _ => ?_)
    refine JL_q wn rfl (ex_sub rfl rfl) ?_
    refine JL_st wn rfl (st_buildSlice (vs := [.int .i64 (w64 (r21 - 1))]) ([(w64 (r21 - 1))] : List Int) Tryz.underlying27 ti_2 zi_2 rfl rfl rfl (fun w hh => ⟨(Rd.mk_int _ _ _), trivial⟩)) (fun b23 => ?_)
    refine JL_ctx (fun w hh => hh.tokf 3 rfl rfl) ?_
    refine JL_ctx (fun w hh => hh.tokf 2 rfl rfl) ?_
    refine JL_ctx (fun w hh => hh.tokf 2 rfl rfl) ?_
    refine JL_st wn rfl (st_buildSlice_od (vs := [(.slice (some ⟨b14, 0, none⟩) 1 1), x20, (.slice (some ⟨b23, 0, none⟩) 1 1)]) (B := ((((.slice (some ⟨b14, 0, none⟩) 1 1) : Value).ownBlock.toList ++ []) ++ (((x20 : Value).ownBlock.toList ++ []) ++ ((((.slice (some ⟨b23, 0, none⟩) 1 1) : Value).ownBlock.toList ++ []) ++ [])))) ([([0] : List Int), r18, ([(w64 (r21 - 1))] : List Int)] : List (List Int)) [2, 1, 0] Tryz.underlying39 ti_27 zi_27 rfl rfl rfl rfl rfl (fun w hh => (dwv_cons (hh.dw 2 rfl) (dwv_cons (hh.dw 1 rfl) (dwv_cons (hh.dw 0 rfl) dwv_nil))))) (fun b24 => ?_)
    refine JL_bnd fun r25 hr26 => ?_
    refine JL_call wn rfl Tryz.call45 rfl (Ca_self (fun _ => rfl) fun w hh => c_impl_joined _ w (fun _ hk => hk.elim) _ _ (hh.od0 0 rfl) _ hr26) (fun x27 => ?_)
    refine JL_bnd fun r28 hr29 => ?_
    refine JL_call wn rfl Tryz.call48 rfl (Ca_self (fun _ => rfl) fun w hh => c_impl_shortMatch _ w (fun _ hk => hk.elim) _ _ (hh.ow0 0 rfl) _ hr29) (fun x30 => ?_)
    refine JL_ctx (fun w hh => hh.tokf 1 rfl rfl) ?_
    refine JL_ctx (fun w hh => hh.sub_rd 2 rfl (hh.pr 1 rfl)) ?_
    refine JL_ctx (fun w hh => hh.sub_tkn 1 rfl (hh.pr 2 rfl)) ?_
    refine JL_q wn rfl (ex_extract rfl rfl) ?_
    refine JL_q wn rfl (ex_extract rfl rfl) ?_
    refine JA rfl rfl ?_
    refine JA rfl rfl ?_
    refine JL_nt ?_
    refine J_ret ?_
    exact N_ret2 rfl (rv_tmp rfl) (rv_tmp rfl) (fun w hh => ⟨(x30, ((x27 : Value).ownBlock.toList ++ [])), rfl, hh.sel [1] rfl⟩)
set_option maxHeartbeats 40000000 in
theorem c_impl_MatchWord (A : Nat → Prop) (w : World) (hA : ∀ k, A k → k < w.heap.size) (v0_ : Value) (p0 : (List GDomino)) (hp0 : Rd A w v0_ p0) (v1_ : Value) (p1 : (List Int)) (hp1 : Rd A w v1_ p1) (r : (List Int) × Int) (hr : F_impl_MatchWord p0 p1 = some r) :
  Con Tryz.prog 18 [v0_, v1_] A w (fun x_ : Value => .tuple #[x_, .int .i64 r.2]) (fun x_ => [.ow 2 x_ r.1]) := by
 refine Con_of (v := fun (r : (List Int) × Int) (x_ : Value) => .tuple #[x_, .int .i64 r.2]) (fs := fun r x_ => [.ow 2 x_ r.1]) Tryz.func18 rfl Tryz.ntmps18 rfl (((SH.start hA).start_rd rfl hp0).start_rd rfl hp1) rfl ?_ hr
 unfold F_impl_MatchWord
 refine J_sr ?_
 refine JA rfl rfl ?_
 refine JA rfl rfl ?_
 refine JL_nt ?_
 refine J_seq ?_
 refine J_sr ?_
 refine JM rfl rfl ?_
 refine JL_bnd fun r1 hr2 => ?_
 refine JL_call wn rfl Tryz.call57 rfl (Ca_of0 fun w hh => c_impl_ValidDominoes _ w (fun _ hk => hk.elim) _ _ (hh.rd0 1 rfl) _ hr2) (fun _ => ?_)
 refine JL_q wn rfl (ex_not rfl) ?_
 refine JL_nt ?_
 refine J_if rfl (fun h3 => ?_) (fun h3 => ?_)
 ·refine J_sr ?_
  refine JA rfl rfl ?_
  refine JA rfl rfl ?_
  refine JL_nt ?_
  refine J_ret ?_
  refine N_then_ret ?_
  refine N_ctx (fun w hh => SH.ow_nil (α := Int) 2 hh) ?_
  exact N_ret2 rfl (rv_tmp rfl) (rv_tmp rfl) (fun w hh => ⟨(.slice none 0 0 : Value), rfl, hh.sel [0] rfl⟩)
 ·refine J_skip ?_
  refine N_then ?_
  refine J_sr ?_
  refine JM rfl rfl ?_
  refine JM rfl rfl ?_
  refine JL_bnd fun r4 hr5 => ?_
  refine JL_call wn rfl Tryz.call59 rfl (Ca_self (fun _ => rfl) fun w hh => c_impl_matchWord _ w (fun _ hk => hk.elim) _ _ (hh.rd0 1 rfl) _ _ (hh.rd0 0 rfl) _ hr5) (fun x6 => ?_)
  refine JL_q wn rfl (ex_extract rfl rfl) ?_
  refine JL_q wn rfl (ex_extract rfl rfl) ?_
  refine JA rfl rfl ?_
  refine JA rfl rfl ?_
  refine JL_nt ?_
  refine J_ret ?_
  exact N_ret2 rfl (rv_tmp rfl) (rv_tmp rfl) (fun w hh => ⟨x6, rfl, hh.sel [0] rfl⟩)
set_option maxHeartbeats 40000000 in
theorem c_laws_FnHaltDominoes (A : Nat → Prop) (w : World) (hA : ∀ k, A k → k < w.heap.size) (v0_ : Value) (p0 : (List (Ik .u8))) (hp0 : Rd A w v0_ p0) (r : Bool) (hr : F_laws_FnHaltDominoes p0 = some r) :
  Con Tryz.prog 3 [v0_] A w (fun x_ : Unit => .bool r) (fun x_ => []) := by
 refine Con_of (v := fun (r : Bool) (x_ : Unit) => .bool r) (fs := fun r x_ => []) Tryz.func3 rfl Tryz.ntmps3 rfl ((SH.start hA).start_rd rfl hp0) rfl ?_ hr
 unfold F_laws_FnHaltDominoes
 refine J_sr ?_
 refine JA rfl rfl ?_
 refine JL_nt ?_
 refine J_seq ?_
 refine J_sr ?_
 refine JM rfl rfl ?_
 refine JL_bnd fun r1 hr2 => ?_
 refine JL_call wn rfl Tryz.call4 rfl (Ca_of0 fun w hh => c_laws_b10Long _ w (fun _ hk => hk.elim) _ _ (hh.rd0 0 rfl) _ hr2) (fun _ => ?_)
 refine JL_nt ?_
 refine J_if rfl (fun h3 => ?_) (fun h3 => ?_)
 ·refine J_sr ?_
  refine JA rfl rfl ?_
  refine JL_nt ?_
  refine J_ret ?_
  refine N_then_ret ?_
  exact N_ret1 rfl (rv_tmp rfl) (fun w hh => ⟨(), rfl, hh.sel [] rfl⟩)
 ·refine J_skip ?_
  refine N_then ?_
  refine J_sr ?_
  refine JM rfl rfl ?_
  refine JL_bnd fun r4 hr5 => ?_
  refine JL_call wn rfl Tryz.call5 rfl (Ca_self (fun _ => rfl) fun w hh => c_spec_B10Small _ w (fun _ hk => hk.elim) _ _ (hh.rd0 0 rfl) _ hr5) (fun x6 => ?_)
  obtain ⟨x6_0, x6_1, x6_2⟩ := x6
  refine JM rfl rfl ?_
  refine JL_q wn rfl (ex_extract rfl rfl) ?_
  refine JL_q wn rfl (ex_extract rfl rfl) ?_
  refine JL_st wn rfl (st_alloc zi_26 rfl) (fun b7 => ?_)
  refine JL_st wn rfl (st_alloc zi_29 rfl) (fun b8 => ?_)
  refine JL_sk wn (sk_store_bx' 1 ti_26 rfl rfl (fun w hh => (cv_aggs ⟨cv_int, cv_int, (hh.cv_ow 2 rfl), trivial⟩)) rfl rfl rfl rfl) ?_
  refine JL_sk wn (sk_store_bx' 0 ti_29 rfl rfl (fun w hh => (cv_aggs ⟨cv_int, (hh.cv_ow 3 rfl), (hh.cv_ow 4 rfl), trivial⟩)) rfl rfl rfl rfl) ?_
  refine JL_nt ?_
  refine J_sr ?_
  refine JL_q wn rfl (ex_load_bx_agg 1 ti_26 rfl rfl rfl rfl) ?_
  refine JL_q wn rfl (ex_load_bx_agg 0 ti_29 rfl rfl rfl rfl) ?_
  refine JL_bnd fun r9 hr10 => ?_
  refine JL_call wn rfl Tryz.call6 rfl (Ca_self (fun _ => rfl) fun w hh => c_impl_RunMachine _ w (fun _ hk => hk.elim) _ _ (GMachine.rdmk (Rd.mk_int _ _ _) (Rd.mk_int _ _ _) (hh.ow0 2 rfl)) _ _ (GConfig.rdmk (Rd.mk_int _ _ _) (hh.ow0 3 rfl) (hh.ow0 4 rfl)) _ _ hr10) (fun x11 => ?_)
  obtain ⟨x11_0, x11_1⟩ := x11
  refine JM rfl rfl ?_
  refine JL_q wn rfl (ex_extract rfl rfl) ?_
  refine JL_q wn rfl (ex_extract rfl rfl) ?_
  refine JL_q wn rfl (ex_extract rfl rfl) ?_
  refine JL_q wn rfl (ex_extract rfl rfl) ?_
  refine JL_st wn rfl (st_alloc zi_29 rfl) (fun b12 => ?_)
  refine JL_sk wn (sk_store_bx' 0 ti_29 rfl rfl (fun w hh => (cv_aggs ⟨cv_int, (hh.cv_ow 1 rfl), (hh.cv_ow 2 rfl), trivial⟩)) rfl rfl rfl rfl) ?_
  refine JA rfl rfl ?_
  refine JA rfl rfl ?_
  refine JA rfl rfl ?_
  refine JL_nt ?_
  refine J_sr ?_
  refine JL_q wn rfl (ex_load_bx_agg 4 ti_26 rfl rfl rfl rfl) ?_
  refine JL_bnd fun r13 hr14 => ?_
  refine JL_call wn rfl Tryz.call7 rfl (Ca_self (fun _ => rfl) fun w hh => c_impl_HaltRewrites _ w (fun _ hk => hk.elim) _ _ (GMachine.rdmk (Rd.mk_int _ _ _) (Rd.mk_int _ _ _) (hh.ow0 5 rfl)) _ hr14) (fun x15 => ?_)
  obtain ⟨x15_0, x15_1⟩ := x15
  refine JM rfl rfl ?_
  refine JL_q wn rfl (ex_extract rfl rfl) ?_
  refine JL_q wn rfl (ex_extract rfl rfl) ?_
  refine JA rfl rfl ?_
  refine JA rfl rfl ?_
  refine JL_nt ?_
  refine J_sr ?_
  refine JL_q wn rfl (ex_load_bx_agg 5 ti_26 rfl rfl rfl rfl) ?_
  refine JL_q wn rfl (ex_load_bx_agg 4 ti_29 rfl rfl rfl rfl) ?_
  refine JL_bnd fun r16 hr17 => ?_
  refine JL_call wn rfl Tryz.call8 rfl (Ca_self (fun _ => rfl) fun w hh => c_impl_HaltWords _ w (fun _ hk => hk.elim) _ _ (GMachine.rdmk (Rd.mk_int _ _ _) (Rd.mk_int _ _ _) (hh.ow0 6 rfl)) _ _ (GConfig.rdmk (Rd.mk_int _ _ _) (hh.ow0 7 rfl) (hh.ow0 8 rfl)) _ hr17) (fun x18 => ?_)
  obtain ⟨x18_0, x18_1, x18_2⟩ := x18
  refine JL_ctx (fun w hh => hh.tkn_rd 0 rfl) ?_
  refine JM rfl rfl ?_
  refine JL_q wn rfl (ex_extract rfl rfl) ?_
  refine JL_q wn rfl (ex_extract rfl rfl) ?_
  refine JL_q wn rfl (ex_extract rfl rfl) ?_
  refine JA rfl rfl ?_
  refine JA rfl rfl ?_
  refine JA rfl rfl ?_
  refine JL_nt ?_
  refine J_sr ?_
  refine JL_q wn rfl (ex_load_bx_agg 8 ti_26 rfl rfl rfl rfl) ?_
  refine JL_q wn rfl (ex_load_bx_agg 7 ti_29 rfl rfl rfl rfl) ?_
  refine JL_bnd fun r19 hr20 => ?_
  refine JL_call wn rfl Tryz.call9 rfl (Ca_self (fun _ => rfl) fun w hh => c_impl_HaltDerivation _ w (fun _ hk => hk.elim) _ _ (GMachine.rdmk (Rd.mk_int _ _ _) (Rd.mk_int _ _ _) (hh.ow0 9 rfl)) _ _ (GConfig.rdmk (Rd.mk_int _ _ _) (hh.ow0 10 rfl) (hh.ow0 11 rfl)) _ _ hr20) (fun x21 => ?_)
  obtain ⟨x21_0, x21_1⟩ := x21
  refine JL_ctx (fun w hh => hh.tkn_rd 0 rfl) ?_
  refine JM rfl rfl ?_
  refine JL_q wn rfl (ex_extract rfl rfl) ?_
  refine JL_q wn rfl (ex_extract rfl rfl) ?_
  refine JA rfl rfl ?_
  refine JA rfl rfl ?_
  refine JL_nt ?_
  refine J_seq ?_
  refine J_cut' (S' := Unit) (G' := Unit) (fun _ _ => [(3, .pointer (some ⟨b7, 0, none⟩)), (4, .pointer (some ⟨b8, 0, none⟩)), (6, .int .i64 r9.2.1), (7, .bool r9.2.2.1), (9, x15_0), (11, x18_0), (12, x18_2), (14, x21_0), (15, .int .i64 r19.2)]) (fun _ _ => [.ow 105 x6_0 r4.1.Rules, .bx b7 26 [.int .i64 r4.1.Symbols, .int .i64 r4.1.States, x6_0], .ow 2 x6_1 r4.2.Left, .ow 2 x6_2 r4.2.Right, .bx b8 29 [.int .i64 r4.2.State, x6_1, x6_2], .od 88 x15_0 r13.1 x15_1, .rd x18_0 r16.1, .tkn x18_0 r16.1 x18_1, .ow 2 x18_2 r16.2.1, .rd x21_0 r19.1, .tkn x21_0 r19.1 x21_1]) ?_ (fun s22 g23 => ?_)
  ·refine J_sr ?_
   refine JM rfl rfl ?_
   refine JL_q wn rfl (ex_neq rfl rfl) ?_
   refine JM rfl rfl ?_
   refine JL_cond (fun h24 => ?_) (fun h24 => ?_)
   ·refine JL_passed rfl rfl rfl h24 ?_
    refine JL_passed rfl rfl rfl h24 ?_
    refine JL_q wn rfl (ex_pick_true rfl h24 rfl) ?_
    refine JM rfl rfl ?_
    refine JL_passed rfl rfl rfl rfl ?_
    refine JL_passed rfl rfl rfl rfl ?_
    refine JL_q wn rfl (ex_pick_true rfl rfl rfl) ?_
    refine JL_nt ?_
    refine J_if_true rfl rfl ?_
    refine J_sr ?_
    refine JA rfl rfl ?_
    refine JL_nt ?_
    refine J_ret ?_
    refine N_mid_ret ?_
    refine N_then_ret ?_
    exact N_ret1 rfl (rv_tmp rfl) (fun w hh => ⟨(), rfl, hh.sel [] rfl⟩)
   ·refine JL_q (wants_some rfl rfl rfl h24) rfl (ex_move rfl) ?_
    refine JL_q (wants_some rfl rfl rfl h24) rfl (ex_neq rfl rfl) ?_
    refine JL_q wn rfl (ex_pick_false rfl h24 rfl) ?_
    refine JM rfl rfl ?_
    refine JL_cond (fun h25 => ?_) (fun h25 => ?_)
    ·refine JL_passed rfl rfl rfl h25 ?_
     refine JL_passed rfl rfl rfl h25 ?_
     refine JL_q wn rfl (ex_pick_true rfl h25 rfl) ?_
     refine JL_nt ?_
     refine J_if_true rfl rfl ?_
     refine J_sr ?_
     refine JA rfl rfl ?_
     refine JL_nt ?_
     refine J_ret ?_
     refine N_mid_ret ?_
     refine N_then_ret ?_
     exact N_ret1 rfl (rv_tmp rfl) (fun w hh => ⟨(), rfl, hh.sel [] rfl⟩)
    ·refine JL_q (wants_some rfl rfl rfl h25) rfl (ex_move rfl) ?_
     refine JL_q (wants_some rfl rfl rfl h25) rfl (ex_neq rfl rfl) ?_
     refine JL_q wn rfl (ex_pick_false rfl h25 rfl) ?_
     refine JL_nt ?_
     refine J_if rfl (fun h26 => ?_) (fun h26 => ?_)
     ·refine J_sr ?_
      refine JA rfl rfl ?_
      refine JL_nt ?_
      refine J_ret ?_
      refine N_mid_ret ?_
      refine N_then_ret ?_
      exact N_ret1 rfl (rv_tmp rfl) (fun w hh => ⟨(), rfl, hh.sel [] rfl⟩)
     ·refine J_skip ?_
      exact N_meet' () ⟨rfl, rfl, rfl, rfl, rfl, rfl, rfl, rfl, rfl, trivial⟩ [11, 10, 12, 13, 9, 5, 2, 3, 4, 0, 1] rfl rfl
  ·refine N_then ?_
   refine J_seq ?_
   refine J_sr ?_
   refine JM rfl rfl ?_
   refine JL_q wn rfl (ex_not rfl) ?_
   refine JL_nt ?_
   refine J_if rfl (fun h27 => ?_) (fun h27 => ?_)
   ·refine J_sr ?_
    refine JM rfl rfl ?_
    refine JL_q wn rfl (ex_eql rfl rfl) ?_
    refine JA rfl rfl ?_
    refine JL_nt ?_
    refine J_ret ?_
    refine N_then_ret ?_
    exact N_ret1 rfl (rv_tmp rfl) (fun w hh => ⟨(), rfl, hh.sel [] rfl⟩)
   ·refine J_skip ?_
    refine N_then ?_
    refine J_sr ?_
    refine JM rfl rfl ?_
    refine JM rfl rfl ?_
    refine JM rfl rfl ?_
    refine JL_bnd fun r28 hr29 => ?_
    refine JL_call wn rfl Tryz.call10 rfl (Ca_self (fun _ => rfl) fun w hh => c_impl_CheckDerivation _ w (fun _ hk => hk.elim) _ _ (hh.od0 5 rfl) _ _ (hh.rd0 6 rfl) _ _ (hh.rd0 9 rfl) _ hr29) (fun x30 => ?_)
    obtain ⟨x30_0, x30_1⟩ := x30
    refine JL_ctx (fun w hh => hh.tkn_rd 0 rfl) ?_
    refine JM rfl rfl ?_
    refine JL_q wn rfl (ex_extract rfl rfl) ?_
    refine JL_q wn rfl (ex_extract rfl rfl) ?_
    refine JA rfl rfl ?_
    refine JA rfl rfl ?_
    refine JL_nt ?_
    refine J_sr ?_
    refine JL_q wn rfl (ex_load_bx_agg 3 ti_26 rfl rfl rfl rfl) ?_
    refine JL_q wn rfl (ex_load_bx_agg 6 ti_29 rfl rfl rfl rfl) ?_
    refine JM rfl rfl ?_
    refine JL_bnd fun r31 hr32 => ?_
    refine JL_call wn rfl Tryz.call11 rfl (Ca_of0 fun w hh => c_impl_StepsOfDerivation _ w (fun _ hk => hk.elim) _ _ (GMachine.rdmk (Rd.mk_int _ _ _) (Rd.mk_int _ _ _) (hh.ow0 2 rfl)) _ _ (GConfig.rdmk (Rd.mk_int _ _ _) (hh.ow0 4 rfl) (hh.ow0 5 rfl)) _ _ (hh.rd0 11 rfl) _ hr32) (fun _ => ?_)
    refine JM rfl rfl ?_
    refine JL_q wn rfl (ex_extract rfl rfl) ?_
    refine JL_q wn rfl (ex_extract rfl rfl) ?_
    refine JA rfl rfl ?_
    refine JA rfl rfl ?_
    refine JL_nt ?_
    refine J_seq ?_
    refine J_cut' (S' := Unit) (G' := Unit) (fun _ _ => [(9, x15_0), (11, x18_0), (12, x18_2), (14, x21_0)]) (fun _ _ => [.od 88 x15_0 r13.1 x15_1, .rd x18_0 r16.1, .tkn x18_0 r16.1 x18_1, .ow 2 x18_2 r16.2.1, .rd x21_0 r19.1, .tkn x21_0 r19.1 x21_1]) ?_ (fun s33 g34 => ?_)
    ·refine J_sr ?_
     refine JM rfl rfl ?_
     refine JL_q wn rfl (ex_neq rfl rfl) ?_
     refine JM rfl rfl ?_
     refine JL_cond (fun h35 => ?_) (fun h35 => ?_)
     ·refine JL_passed rfl rfl rfl h35 ?_
      refine JL_passed rfl rfl rfl h35 ?_
      refine JL_q wn rfl (ex_pick_true rfl h35 rfl) ?_
      refine JM rfl rfl ?_
      refine JL_passed rfl rfl rfl rfl ?_
      refine JL_passed rfl rfl rfl rfl ?_
      refine JL_q wn rfl (ex_pick_true rfl rfl rfl) ?_
      refine JM rfl rfl ?_
      refine JL_passed rfl rfl rfl rfl ?_
      refine JL_passed rfl rfl rfl rfl ?_
      refine JL_passed rfl rfl rfl rfl ?_
      refine JL_passed rfl rfl rfl rfl ?_
      refine JL_q wn rfl (ex_pick_true rfl rfl rfl) ?_
      refine JM rfl rfl ?_
      refine JL_passed rfl rfl rfl rfl ?_
      refine JL_passed rfl rfl rfl rfl ?_
      refine JL_passed rfl rfl rfl rfl ?_
      refine JL_q wn rfl (ex_pick_true rfl rfl rfl) ?_
      refine JM rfl rfl ?_
      refine JL_passed rfl rfl rfl rfl ?_
      refine JL_passed rfl rfl rfl rfl ?_
      refine JL_passed rfl rfl rfl rfl ?_
      refine JL_q wn rfl (ex_pick_true rfl rfl rfl) ?_
      refine JL_nt ?_
      refine J_if_true rfl rfl ?_
      refine J_sr ?_
      refine JA rfl rfl ?_
      refine JL_nt ?_
      refine J_ret ?_
      refine N_mid_ret ?_
      refine N_then_ret ?_
      exact N_ret1 rfl (rv_tmp rfl) (fun w hh => ⟨(), rfl, hh.sel [] rfl⟩)
     ·refine JL_q (wants_some rfl rfl rfl h35) rfl (ex_move rfl) ?_
      refine JL_q (wants_some rfl rfl rfl h35) rfl (ex_neq rfl rfl) ?_
      refine JL_q wn rfl (ex_pick_false rfl h35 rfl) ?_
      refine JM rfl rfl ?_
      refine JL_cond (fun h36 => ?_) (fun h36 => ?_)
      ·refine JL_passed rfl rfl rfl h36 ?_
       refine JL_passed rfl rfl rfl h36 ?_
       refine JL_q wn rfl (ex_pick_true rfl h36 rfl) ?_
       refine JM rfl rfl ?_
       refine JL_passed rfl rfl rfl rfl ?_
       refine JL_passed rfl rfl rfl rfl ?_
       refine JL_passed rfl rfl rfl rfl ?_
       refine JL_passed rfl rfl rfl rfl ?_
       refine JL_q wn rfl (ex_pick_true rfl rfl rfl) ?_
       refine JM rfl rfl ?_
       refine JL_passed rfl rfl rfl rfl ?_
       refine JL_passed rfl rfl rfl rfl ?_
       refine JL_passed rfl rfl rfl rfl ?_
       refine JL_q wn rfl (ex_pick_true rfl rfl rfl) ?_
       refine JM rfl rfl ?_
       refine JL_passed rfl rfl rfl rfl ?_
       refine JL_passed rfl rfl rfl rfl ?_
       refine JL_passed rfl rfl rfl rfl ?_
       refine JL_q wn rfl (ex_pick_true rfl rfl rfl) ?_
       refine JL_nt ?_
       refine J_if_true rfl rfl ?_
       refine J_sr ?_
       refine JA rfl rfl ?_
       refine JL_nt ?_
       refine J_ret ?_
       refine N_mid_ret ?_
       refine N_then_ret ?_
       exact N_ret1 rfl (rv_tmp rfl) (fun w hh => ⟨(), rfl, hh.sel [] rfl⟩)
      ·refine JL_q (wants_some rfl rfl rfl h36) rfl (ex_move rfl) ?_
       refine JL_q (wants_some rfl rfl rfl h36) rfl (ex_neq rfl rfl) ?_
       refine JL_q wn rfl (ex_pick_false rfl h36 rfl) ?_
       refine JM rfl rfl ?_
       refine JL_cond (fun h37 => ?_) (fun h37 => ?_)
       ·refine JL_passed rfl rfl rfl h37 ?_
        refine JL_passed rfl rfl rfl h37 ?_
        refine JL_passed rfl rfl rfl h37 ?_
        refine JL_passed rfl rfl rfl h37 ?_
        refine JL_q wn rfl (ex_pick_true rfl h37 rfl) ?_
        refine JM rfl rfl ?_
        refine JL_passed rfl rfl rfl rfl ?_
        refine JL_passed rfl rfl rfl rfl ?_
        refine JL_passed rfl rfl rfl rfl ?_
        refine JL_q wn rfl (ex_pick_true rfl rfl rfl) ?_
        refine JM rfl rfl ?_
        refine JL_passed rfl rfl rfl rfl ?_
        refine JL_passed rfl rfl rfl rfl ?_
        refine JL_passed rfl rfl rfl rfl ?_
        refine JL_q wn rfl (ex_pick_true rfl rfl rfl) ?_
        refine JL_nt ?_
        refine J_if_true rfl rfl ?_
        refine J_sr ?_
        refine JA rfl rfl ?_
        refine JL_nt ?_
        refine J_ret ?_
        refine N_mid_ret ?_
        refine N_then_ret ?_
        exact N_ret1 rfl (rv_tmp rfl) (fun w hh => ⟨(), rfl, hh.sel [] rfl⟩)
       ·refine JL_q (wants_some rfl rfl rfl h37) rfl (ex_move rfl) ?_
        refine JL_q (wants_some rfl rfl rfl h37) rfl (ex_move rfl) ?_
        refine JL_bnd fun r38 hr39 => ?_
        refine JL_call (wants_some rfl rfl rfl h37) rfl Tryz.call12 rfl (Ca_of0 fun w hh => c_laws_b10Nums _ w (fun _ hk => hk.elim) _ _ (hh.rd0 0 rfl) _ _ (hh.ow0 10 rfl) _ hr39) (fun _ => ?_)
        refine JL_q (wants_some rfl rfl rfl h37) rfl (ex_not rfl) ?_
        refine JL_q wn rfl (ex_pick_false rfl h37 rfl) ?_
        refine JM rfl rfl ?_
        refine JL_cond (fun h40 => ?_) (fun h40 => ?_)
        ·refine JL_passed rfl rfl rfl h40 ?_
         refine JL_passed rfl rfl rfl h40 ?_
         refine JL_passed rfl rfl rfl h40 ?_
         refine JL_q wn rfl (ex_pick_true rfl h40 rfl) ?_
         refine JM rfl rfl ?_
         refine JL_passed rfl rfl rfl rfl ?_
         refine JL_passed rfl rfl rfl rfl ?_
         refine JL_passed rfl rfl rfl rfl ?_
         refine JL_q wn rfl (ex_pick_true rfl rfl rfl) ?_
         refine JL_nt ?_
         refine J_if_true rfl rfl ?_
         refine J_sr ?_
         refine JA rfl rfl ?_
         refine JL_nt ?_
         refine J_ret ?_
         refine N_mid_ret ?_
         refine N_then_ret ?_
         exact N_ret1 rfl (rv_tmp rfl) (fun w hh => ⟨(), rfl, hh.sel [] rfl⟩)
        ·refine JL_q (wants_some rfl rfl rfl h40) rfl (ex_move rfl) ?_
         refine JL_q (wants_some rfl rfl rfl h40) rfl (ex_move rfl) ?_
         refine JL_q (wants_some rfl rfl rfl h40) rfl (ex_neq rfl rfl) ?_
         refine JL_q wn rfl (ex_pick_false rfl h40 rfl) ?_
         refine JM rfl rfl ?_
         refine JL_cond (fun h41 => ?_) (fun h41 => ?_)
         ·refine JL_passed rfl rfl rfl h41 ?_
          refine JL_passed rfl rfl rfl h41 ?_
          refine JL_passed rfl rfl rfl h41 ?_
          refine JL_q wn rfl (ex_pick_true rfl h41 rfl) ?_
          refine JL_nt ?_
          refine J_if_true rfl rfl ?_
          refine J_sr ?_
          refine JA rfl rfl ?_
          refine JL_nt ?_
          refine J_ret ?_
          refine N_mid_ret ?_
          refine N_then_ret ?_
          exact N_ret1 rfl (rv_tmp rfl) (fun w hh => ⟨(), rfl, hh.sel [] rfl⟩)
         ·refine JL_q (wants_some rfl rfl rfl h41) rfl (ex_move rfl) ?_
          refine JL_q (wants_some rfl rfl rfl h41) rfl (ex_len_ow 10 Tryz.underlying27 rfl rfl) ?_
          refine JL_q (wants_some rfl rfl rfl h41) rfl (ex_neq rfl rfl) ?_
          refine JL_q wn rfl (ex_pick_false rfl h41 rfl) ?_
          refine JL_nt ?_
          refine J_if rfl (fun h42 => ?_) (fun h42 => ?_)
          ·refine J_sr ?_
           refine JA rfl rfl ?_
           refine JL_nt ?_
           refine J_ret ?_
           refine N_mid_ret ?_
           refine N_then_ret ?_
           exact N_ret1 rfl (rv_tmp rfl) (fun w hh => ⟨(), rfl, hh.sel [] rfl⟩)
          ·refine J_skip ?_
           exact N_meet' () ⟨rfl, rfl, rfl, rfl, trivial⟩ [7, 8, 9, 10, 11, 12] rfl rfl
    ·refine N_then ?_
     refine J_sr ?_
     refine JM rfl rfl ?_
     refine JM rfl rfl ?_
     refine JM rfl rfl ?_
     refine JL_bnd fun r43 hr44 => ?_
     refine JL_call wn rfl Tryz.call13 rfl (Ca_self (fun _ => rfl) fun w hh => c_impl_RewritesToDominoes _ w (fun _ hk => hk.elim) _ _ (hh.od0 0 rfl) _ _ (hh.rd0 1 rfl) _ _ (hh.ow0 3 rfl) _ hr44) (fun x45 => ?_)
     obtain ⟨x45_0, x45_1⟩ := x45
     refine JM rfl rfl ?_
     refine JL_q wn rfl (ex_extract rfl rfl) ?_
     refine JL_q wn rfl (ex_extract rfl rfl) ?_
     refine JA rfl rfl ?_
     refine JA rfl rfl ?_
     refine JL_nt ?_
     refine J_sr ?_
     refine JM rfl rfl ?_
     refine JM rfl rfl ?_
     refine JM rfl rfl ?_
     refine JM rfl rfl ?_
     refine JL_bnd fun r46 hr47 => ?_
     refine JL_call wn rfl Tryz.call14 rfl (Ca_self (fun _ => rfl) fun w hh => c_impl_MatchOfDerivation _ w (fun _ hk => hk.elim) _ _ (hh.od0 1 rfl) _ _ (hh.rd0 2 rfl) _ _ (hh.ow0 4 rfl) _ _ (hh.rd0 5 rfl) _ hr47) (fun x48 => ?_)
     obtain ⟨x48_0, x48_1⟩ := x48
     refine JL_ctx (fun w hh => hh.tkn_rd 0 rfl) ?_
     refine JM rfl rfl ?_
     refine JL_q wn rfl (ex_extract rfl rfl) ?_
     refine JL_q wn rfl (ex_extract rfl rfl) ?_
     refine JA rfl rfl ?_
     refine JA rfl rfl ?_
     refine JL_nt ?_
     refine J_seq ?_
     refine J_cut' (S' := Unit) (G' := Unit) (fun _ _ => [(20, x45_0), (22, x48_0)]) (fun _ _ => [.od 95 x45_0 r43.1 x45_1, .rd x48_0 r46.1, .tkn x48_0 r46.1 x48_1]) ?_ (fun s49 g50 => ?_)
     ·refine J_sr ?_
      refine JM rfl rfl ?_
      refine JL_q wn rfl (ex_neq rfl rfl) ?_
      refine JM rfl rfl ?_
      refine JL_cond (fun h51 => ?_) (fun h51 => ?_)
      ·refine JL_passed rfl rfl rfl h51 ?_
       refine JL_passed rfl rfl rfl h51 ?_
       refine JL_q wn rfl (ex_pick_true rfl h51 rfl) ?_
       refine JL_nt ?_
       refine J_if_true rfl rfl ?_
       refine J_sr ?_
       refine JM rfl rfl ?_
       refine JM rfl rfl ?_
       refine JM rfl rfl ?_
       refine JM rfl rfl ?_
       refine JL_bnd fun r52 hr53 => ?_
       refine JL_call wn rfl Tryz.call15 rfl (Ca_self (fun _ => rfl) fun w hh => c_spec_MatchOfDerivation _ w (fun _ hk => hk.elim) _ _ (hh.od0 3 rfl) _ _ (hh.rd0 4 rfl) _ _ (hh.ow0 6 rfl) _ _ (hh.rd0 7 rfl) _ hr53) (fun x54 => ?_)
       refine JM rfl rfl ?_
       refine JL_q wn rfl (ex_extract rfl rfl) ?_
       refine JL_q wn rfl (ex_extract rfl rfl) ?_
       refine JA rfl rfl ?_
       refine JA rfl rfl ?_
       refine JL_nt ?_
       refine J_sr ?_
       refine JM rfl rfl ?_
       refine JL_q wn rfl (ex_eql rfl rfl) ?_
       refine JM rfl rfl ?_
       refine JL_cond (fun h55 => ?_) (fun h55 => ?_)
       ·refine JL_q (wants_some rfl rfl rfl h55) rfl (ex_move rfl) ?_
        refine JL_q (wants_some rfl rfl rfl h55) rfl (ex_move rfl) ?_
        refine JL_q (wants_some rfl rfl rfl h55) rfl (ex_eql rfl rfl) ?_
        refine JL_q wn rfl (ex_pick_true rfl h55 rfl) ?_
        refine JA rfl rfl ?_
        refine JL_nt ?_
        refine J_ret ?_
        refine N_mid_ret ?_
        refine N_then_ret ?_
        exact N_ret1 rfl (rv_tmp rfl) (fun w hh => ⟨(), rfl, hh.sel [] rfl⟩)
       ·refine JL_passed rfl rfl rfl h55 ?_
        refine JL_passed rfl rfl rfl h55 ?_
        refine JL_passed rfl rfl rfl h55 ?_
        refine JL_q wn rfl (ex_pick_false rfl h55 rfl) ?_
        refine JA rfl rfl ?_
        refine JL_nt ?_
        refine J_ret ?_
        refine N_mid_ret ?_
        refine N_then_ret ?_
        exact N_ret1 rfl (rv_tmp rfl) (fun w hh => ⟨(), rfl, hh.sel [] rfl⟩)
      ·refine JL_q (wants_some rfl rfl rfl h51) rfl (ex_move rfl) ?_
       refine JL_q (wants_some rfl rfl rfl h51) rfl (ex_neq rfl rfl) ?_
       refine JL_q wn rfl (ex_pick_false rfl h51 rfl) ?_
       refine JL_nt ?_
       refine J_if rfl (fun h56 => ?_) (fun h56 => ?_)
       ·refine J_sr ?_
        refine JM rfl rfl ?_
        refine JM rfl rfl ?_
        refine JM rfl rfl ?_
        refine JM rfl rfl ?_
        refine JL_bnd fun r57 hr58 => ?_
        refine JL_call wn rfl Tryz.call15 rfl (Ca_self (fun _ => rfl) fun w hh => c_spec_MatchOfDerivation _ w (fun _ hk => hk.elim) _ _ (hh.od0 3 rfl) _ _ (hh.rd0 4 rfl) _ _ (hh.ow0 6 rfl) _ _ (hh.rd0 7 rfl) _ hr58) (fun x59 => ?_)
        refine JM rfl rfl ?_
        refine JL_q wn rfl (ex_extract rfl rfl) ?_
        refine JL_q wn rfl (ex_extract rfl rfl) ?_
        refine JA rfl rfl ?_
        refine JA rfl rfl ?_
        refine JL_nt ?_
        refine J_sr ?_
        refine JM rfl rfl ?_
        refine JL_q wn rfl (ex_eql rfl rfl) ?_
        refine JM rfl rfl ?_
        refine JL_cond (fun h60 => ?_) (fun h60 => ?_)
        ·refine JL_q (wants_some rfl rfl rfl h60) rfl (ex_move rfl) ?_
         refine JL_q (wants_some rfl rfl rfl h60) rfl (ex_move rfl) ?_
         refine JL_q (wants_some rfl rfl rfl h60) rfl (ex_eql rfl rfl) ?_
         refine JL_q wn rfl (ex_pick_true rfl h60 rfl) ?_
         refine JA rfl rfl ?_
         refine JL_nt ?_
         refine J_ret ?_
         refine N_mid_ret ?_
         refine N_then_ret ?_
         exact N_ret1 rfl (rv_tmp rfl) (fun w hh => ⟨(), rfl, hh.sel [] rfl⟩)
        ·refine JL_passed rfl rfl rfl h60 ?_
         refine JL_passed rfl rfl rfl h60 ?_
         refine JL_passed rfl rfl rfl h60 ?_
         refine JL_q wn rfl (ex_pick_false rfl h60 rfl) ?_
         refine JA rfl rfl ?_
         refine JL_nt ?_
         refine J_ret ?_
         refine N_mid_ret ?_
         refine N_then_ret ?_
         exact N_ret1 rfl (rv_tmp rfl) (fun w hh => ⟨(), rfl, hh.sel [] rfl⟩)
       ·refine J_skip ?_
        exact N_meet' () ⟨rfl, rfl, trivial⟩ [2, 0, 1] rfl rfl
     ·refine N_then ?_
      refine J_sr ?_
      refine JM rfl rfl ?_
      refine JL_bnd fun r61 hr62 => ?_
      refine JL_call wn rfl Tryz.call16 rfl (Ca_self (fun _ => rfl) fun w hh => c_impl_PlainDominoes _ w (fun _ hk => hk.elim) _ _ (hh.od0 0 rfl) _ hr62) (fun x63 => ?_)
      obtain ⟨x63_0, x63_1⟩ := x63
      refine JM rfl rfl ?_
      refine JL_q wn rfl (ex_extract rfl rfl) ?_
      refine JL_q wn rfl (ex_extract rfl rfl) ?_
      refine JA rfl rfl ?_
      refine JA rfl rfl ?_
      refine JL_nt ?_
      refine J_seq ?_
      refine J_sr ?_
      refine JM rfl rfl ?_
      refine JL_q wn rfl (ex_neq rfl rfl) ?_
      refine JL_nt ?_
      refine J_if rfl (fun h64 => ?_) (fun h64 => ?_)
      ·refine J_sr ?_
       refine JM rfl rfl ?_
       refine JL_q wn rfl (ex_eql rfl rfl) ?_
       refine JA rfl rfl ?_
       refine JL_nt ?_
       refine J_ret ?_
       refine N_then_ret ?_
       exact N_ret1 rfl (rv_tmp rfl) (fun w hh => ⟨(), rfl, hh.sel [] rfl⟩)
      ·refine J_skip ?_
       refine N_then ?_
       refine J_sr ?_
       refine JM rfl rfl ?_
       refine JM rfl rfl ?_
       refine JL_bnd fun r65 hr66 => ?_
       refine JL_call wn rfl Tryz.call17 rfl (Ca_self (fun _ => rfl) fun w hh => c_impl_PlainMatch _ w (fun _ hk => hk.elim) _ _ (hh.od0 1 rfl) _ _ (hh.rd0 2 rfl) _ hr66) (fun x67 => ?_)
       obtain ⟨x67_0, x67_1⟩ := x67
       refine JL_ctx (fun w hh => hh.tkn_rd 0 rfl) ?_
       refine JM rfl rfl ?_
       refine JL_q wn rfl (ex_extract rfl rfl) ?_
       refine JL_q wn rfl (ex_extract rfl rfl) ?_
       refine JA rfl rfl ?_
       refine JA rfl rfl ?_
       refine JL_nt ?_
       refine J_seq ?_
       refine J_sr ?_
       refine JM rfl rfl ?_
       refine JL_q wn rfl (ex_neq rfl rfl) ?_
       refine JL_nt ?_
       refine J_if rfl (fun h68 => ?_) (fun h68 => ?_)
       ·refine J_sr ?_
        refine JM rfl rfl ?_
        refine JL_q wn rfl (ex_eql rfl rfl) ?_
        refine JA rfl rfl ?_
        refine JL_nt ?_
        refine J_ret ?_
        refine N_then_ret ?_
        exact N_ret1 rfl (rv_tmp rfl) (fun w hh => ⟨(), rfl, hh.sel [] rfl⟩)
       ·refine J_skip ?_
        refine N_then ?_
        refine J_sr ?_
        refine JM rfl rfl ?_
        refine JM rfl rfl ?_
        refine JL_bnd fun r69 hr70 => ?_
        refine JL_call wn rfl Tryz.call18 rfl (Ca_self (fun _ => rfl) fun w hh => c_impl_MatchWord _ w (fun _ hk => hk.elim) _ _ (hh.od0 2 rfl) _ _ (hh.rd0 0 rfl) _ hr70) (fun x71 => ?_)
        refine JM rfl rfl ?_
        refine JL_q wn rfl (ex_extract rfl rfl) ?_
        refine JL_q wn rfl (ex_extract rfl rfl) ?_
        refine JA rfl rfl ?_
        refine JA rfl rfl ?_
        refine JL_nt ?_
        refine J_sr ?_
        refine JM rfl rfl ?_
        refine JL_q wn rfl (ex_eql rfl rfl) ?_
        refine JM rfl rfl ?_
        refine JL_cond (fun h72 => ?_) (fun h72 => ?_)
        ·refine JL_passed rfl rfl rfl h72 ?_
         refine JL_passed rfl rfl rfl h72 ?_
         refine JL_q wn rfl (ex_pick_true rfl h72 rfl) ?_
         refine JA rfl rfl ?_
         refine JL_nt ?_
         refine J_ret ?_
         exact N_ret1 rfl (rv_tmp rfl) (fun w hh => ⟨(), rfl, hh.sel [] rfl⟩)
        ·refine JL_q (wants_some rfl rfl rfl h72) rfl (ex_move rfl) ?_
         refine JL_q (wants_some rfl rfl rfl h72) rfl (ex_eql rfl rfl) ?_
         refine JL_q wn rfl (ex_pick_false rfl h72 rfl) ?_
         refine JA rfl rfl ?_
         refine JL_nt ?_
         refine J_ret ?_
         exact N_ret1 rfl (rv_tmp rfl) (fun w hh => ⟨(), rfl, hh.sel [] rfl⟩)
end Go.Proofs.YtlepdmenejbleaaGreat
