/-
  Each function of the program computes what its plain function says: printed by program. No condition.
-/
import Derived.Test.YtgpimmdigeobbaaFn
import Derived.Test.YtgpimmdigeobbaaInf
import Derived.Test.YtgpimmdigeobbaaCon2
import Derived.Test.YtgpimmdigeobbaaCon3
namespace Go.Proofs.Ytgpimmdigeobbaa
open Go Go.Tc Go.Fn
set_option linter.unusedVariables false
set_option maxHeartbeats 40000000 in
theorem c_impl_copyFormula (A : Nat → Prop) (w : World) (hA : ∀ k, A k → k < w.heap.size) (v0_ : Value) (p0 : GFormula) (hp0 : Rd A w v0_ p0) (r : (Int × Int × Int × (List (List Int)) × (List (List Int)) × (List Int))) (hr : F_impl_copyFormula p0 = some r) :
  Con Try.prog 20 [v0_] A w (fun x_ : Value × List Nat × Value × List Nat × Value × Nat => .pointer (some ⟨x_.2.2.2.2.2, 0, none⟩)) (fun x_ => [.od 29 x_.1 r.2.2.2.1 x_.2.1, .od 29 x_.2.2.1 r.2.2.2.2.1 x_.2.2.2.1, .ow 2 x_.2.2.2.2.1 r.2.2.2.2.2, .bx x_.2.2.2.2.2 31 [.int .i64 r.1, .int .i64 r.2.1, .int .i64 r.2.2.1, x_.1, x_.2.2.1, x_.2.2.2.2.1]]) := by
 obtain ⟨v0_0, v0_1, v0_2, rfl, hp0_0, hp0_1, hp0_2⟩ := GFormula.open hp0
 refine Con_of (v := fun (r : (Int × Int × Int × (List (List Int)) × (List (List Int)) × (List Int))) (x_ : Value × List Nat × Value × List Nat × Value × Nat) => .pointer (some ⟨x_.2.2.2.2.2, 0, none⟩)) (fs := fun r x_ => [.od 29 x_.1 r.2.2.2.1 x_.2.1, .od 29 x_.2.2.1 r.2.2.2.2.1 x_.2.2.2.1, .ow 2 x_.2.2.2.2.1 r.2.2.2.2.2, .bx x_.2.2.2.2.2 31 [.int .i64 r.1, .int .i64 r.2.1, .int .i64 r.2.2.1, x_.1, x_.2.2.1, x_.2.2.2.2.1]]) Try.func20 rfl Try.ntmps20 rfl ((((SH.start hA).start_rd rfl hp0_0).start_rd rfl hp0_1).start_rd rfl hp0_2) rfl ?_ hr
 unfold F_impl_copyFormula
 refine J_sr (JL_st wn rfl (st_box' rfl (fun w hh => (cv_aggs ⟨cv_int, cv_int, cv_int, (hh.cv 2 rfl), (hh.cv 1 rfl), (hh.cv 0 rfl), trivial⟩))) (fun b1 => JA rfl rfl (JL_nt (J_seq (J_draw [] (by kernel_rfl) ?_)))))
 refine JP_take (i := 0) [0, 1, 2, 3] [] rfl (by kernel_rfl) (by kernel_rfl) (by kernel_rfl) rfl rfl wn rfl (ex_fieldAddr fi_31_0 rfl rfl) ?_
 refine JP_take (i := 1) [0, 1, 2, 3] [] rfl (by kernel_rfl) (by kernel_rfl) (by kernel_rfl) rfl rfl wn rfl (ex_load_bx 0 ti_2 rfl rfl rfl) ?_
 refine JP_take (i := 2) [0, 1, 2, 3] [] rfl (by kernel_rfl) (by kernel_rfl) (by kernel_rfl) rfl rfl wn rfl (ex_fieldAddr fi_31_1 rfl rfl) ?_
 refine JP_take (i := 3) [0, 1, 2, 3] [] rfl (by kernel_rfl) (by kernel_rfl) (by kernel_rfl) rfl rfl wn rfl (ex_load_bx 0 ti_2 rfl rfl rfl) ?_
 refine JP_take (i := 4) [0, 1, 2, 3] [] rfl (by kernel_rfl) (by kernel_rfl) (by kernel_rfl) rfl rfl wn rfl (ex_fieldAddr fi_31_2 rfl rfl) ?_
 refine JP_take (i := 5) [0, 1, 2, 3] [] rfl (by kernel_rfl) (by kernel_rfl) (by kernel_rfl) rfl rfl wn rfl (ex_load_bx 0 ti_2 rfl rfl rfl) ?_
 refine JP_take (i := 6) [0, 1, 2, 3] [] rfl (by kernel_rfl) (by kernel_rfl) (by kernel_rfl) rfl rfl wn rfl (ex_fieldAddr fi_31_3 rfl rfl) ?_
 refine JP_take (i := 7) [0, 1, 2, 3] [] rfl (by kernel_rfl) (by kernel_rfl) (by kernel_rfl) rfl rfl wn rfl (ex_load_bx 0 ti_28 rfl rfl rfl) ?_
 refine JP_take (i := 9) [0, 1, 2, 3] [] rfl (by kernel_rfl) (by kernel_rfl) (by kernel_rfl) rfl rfl wn rfl (ex_fieldAddr fi_31_4 rfl rfl) ?_
 refine JP_take (i := 10) [0, 1, 2, 3] [] rfl (by kernel_rfl) (by kernel_rfl) (by kernel_rfl) rfl rfl wn rfl (ex_load_bx 0 ti_28 rfl rfl rfl) ?_
 refine JP_take (i := 12) [0, 1, 2, 3] [] rfl (by kernel_rfl) (by kernel_rfl) (by kernel_rfl) rfl rfl wn rfl (ex_fieldAddr fi_31_5 rfl rfl) ?_
 refine JP_take (i := 13) [0, 1, 2, 3] [] rfl (by kernel_rfl) (by kernel_rfl) (by kernel_rfl) rfl rfl wn rfl (ex_load_bx 0 ti_29 rfl rfl rfl) ?_
 refine JP_go [0, 1, 2, 3] [] rfl rfl rfl (fun w3 h1_4 hp2 => JD_bnd fun r5 hr6 => JD_one (i := 8) (by kernel_rfl) ?_)
 refine JO_call rfl wn rfl Try.call48 rfl (Ca_self (fun _ => rfl) fun w hh => c_impl_copyLists _ w (fun _ hk => hk.elim) _ _ (hh.rd0 3 rfl) _ hr6) (fun x7 => ?_)
 obtain ⟨x7_0, x7_1⟩ := x7
 refine JD_bnd fun r8 hr9 => JD_one (i := 11) (by kernel_rfl) ?_
 refine JO_call rfl wn rfl Try.call48 rfl (Ca_self (fun _ => rfl) fun w hh => c_impl_copyLists _ w (fun _ hk => hk.elim) _ _ (hh.rd0 3 rfl) _ hr9) (fun x10 => ?_)
 obtain ⟨x10_0, x10_1⟩ := x10
 refine JD_bnd fun r11 hr12 => JD_one (i := 14) (by kernel_rfl) ?_
 refine JO_call rfl wn rfl Try.call46 rfl (Ca_self (fun _ => rfl) fun w hh => c_slices_Clone_Sint64_int64 _ w (fun _ hk => hk.elim) _ _ (hh.rd0 3 rfl) _ hr12) (fun x13 => JD_one (i := 15) (by kernel_rfl) ?_)
 refine JO_q rfl wn rfl (ex_build si_31 rfl (.cons fi_31_0 rfl rfl (.cons fi_31_1 rfl rfl (.cons fi_31_2 rfl rfl (.cons fi_31_3 rfl rfl (.cons fi_31_4 rfl rfl (.cons fi_31_5 rfl rfl .nil)))))) (fun w hh => ⟨cv_int, cv_int, cv_int, (hh.cv_od 2 rfl), (hh.cv_od 1 rfl), (hh.cv_ow 0 rfl), trivial⟩)) (JD_one (i := 16) (by kernel_rfl) ?_)
 refine JO_st rfl wn rfl (st_box' rfl (fun w hh => (cv_aggs ⟨cv_int, cv_int, cv_int, (hh.cv_od 2 rfl), (hh.cv_od 1 rfl), (hh.cv_ow 0 rfl), trivial⟩))) (fun _ hk => nomatch hk) (fun b14 => JD_take (i := 17) hp2 rfl (by kernel_rfl) (by kernel_rfl) (by kernel_rfl) wn rfl (ex_assign rfl) ?_)
 refine JD_done (by kernel_rfl) ?_
 exact N_then (J_ret (N_ret1 rfl (rv_tmp rfl) (fun w hh => ⟨(x7_0, x7_1, x10_0, x10_1, x13, b14), rfl, hh.sel [3, 2, 1, 0] rfl⟩)))
set_option maxHeartbeats 40000000 in
theorem c_impl_Formula_onRepeater (A : Nat → Prop) (w : World) (hA : ∀ k, A k → k < w.heap.size) (v0_ : Value) (p0 : GFormula) (hp0 : RdA A w.heap.size w v0_ p0) (r : Int × Int) (hr : F_impl_Formula_onRepeater p0 = some r) :
  Con Try.prog 49 [v0_] A w (fun x_ : Unit => .tuple #[.int .i64 r.1, .int .i64 r.2]) (fun x_ => []) := by
 refine Con_of (v := fun (r : Int × Int) (x_ : Unit) => .tuple #[.int .i64 r.1, .int .i64 r.2]) (fs := fun r x_ => []) Try.func49 rfl Try.ntmps49 rfl ((SH.start hA).start_pa' rfl hp0) rfl ?_ hr
 unfold F_impl_Formula_onRepeater
 refine J_sr (JA rfl rfl (JA rfl rfl (JL_nt (J_seq (J_sr (JM rfl rfl (JL_q wn rfl (ex_nilCheck_pa 0 rfl rfl) (JL_st wn rfl (st_field_pa 0 (GFormula.at_At _) fi_31_2 rfl rfl rfl) (fun q1 => JL_st wn rfl (st_load_pa_o 0 (opens_int _) ti_2 rfl rfl) (fun _ => JL_nt (J_block (J_sr (JL_q wn rfl (ex_eql rfl rfl) (JA rfl rfl (JL_nt (J_if rfl (fun h3 => ?_) (fun h3 => ?_)))))))))))))))))
 ·exact J_sr (JM rfl rfl (JL_q wn rfl (ex_nilCheck_pa 1 rfl rfl) (JL_st wn rfl (st_field_pa 1 (GFormula.at_Head _) fi_31_1 rfl rfl rfl) (fun q4 => JL_st wn rfl (st_load_pa_o 0 (opens_int _) ti_2 rfl rfl) (fun _ => JL_q wn rfl (ex_sub rfl rfl) (JA rfl rfl (JA rfl rfl (JL_nt (J_ret (N_block_ret (N_then_ret (N_ret2 rfl (rv_tmp rfl) (rv_tmp rfl) (fun w hh => ⟨(), rfl, hh.sel [] rfl⟩)))))))))))))
 ·refine J_seq (J_draw [] (by kernel_rfl) ?_)
  refine JP_take (i := 0) [0, 1] [] rfl (by kernel_rfl) (by kernel_rfl) (by kernel_rfl) rfl rfl wn rfl (ex_move rfl) ?_
  refine JP_take (i := 1) [0, 1] [] rfl (by kernel_rfl) (by kernel_rfl) (by kernel_rfl) rfl rfl wn rfl (ex_nilCheck_pa 1 rfl rfl) ?_
  refine JP_sq (i := 2) [] rfl (by kernel_rfl) (by kernel_rfl) (by kernel_rfl) rfl wn rfl (sq_field_pa 1 (GFormula.at_Walls _) fi_31_3 rfl rfl rfl) (fun q6 => ?_)
  refine JP_sq (i := 3) [] rfl (by kernel_rfl) (by kernel_rfl) (by kernel_rfl) rfl wn rfl (sq_load_pa_o 0 (opens_sl _) ti_28 rfl rfl) (fun v7 => ?_)
  refine JP_take (i := 4) [0, 1, 2, 3] [] rfl (by kernel_rfl) (by kernel_rfl) (by kernel_rfl) rfl rfl wn rfl (ex_move rfl) ?_
  refine JP_take (i := 5) [0, 1, 2, 3] [] rfl (by kernel_rfl) (by kernel_rfl) (by kernel_rfl) rfl rfl wn rfl (ex_nilCheck_pa 3 rfl rfl) ?_
  refine JP_sq (i := 6) [] rfl (by kernel_rfl) (by kernel_rfl) (by kernel_rfl) rfl wn rfl (sq_field_pa 3 (GFormula.at_Head _) fi_31_1 rfl rfl rfl) (fun q8 => ?_)
  refine JP_sq (i := 7) [] rfl (by kernel_rfl) (by kernel_rfl) (by kernel_rfl) rfl wn rfl (sq_load_pa_o 0 (opens_int _) ti_2 rfl rfl) (fun _ => ?_)
  refine JP_bnd fun y10 hy11 => JP_sq (i := 8) [] rfl (by kernel_rfl) (by kernel_rfl) (by kernel_rfl) rfl wn rfl (sq_index 1 Try.underlying28 ti_29 rfl rfl rfl hy11) (fun q12 => ?_)
  refine JP_sq (i := 9) [] rfl (by kernel_rfl) (by kernel_rfl) (by kernel_rfl) rfl wn rfl (sq_load_pt_o 0 (opens_sl _) ti_29 rfl rfl) (fun v13 => ?_)
  refine JP_go [0, 1, 2, 3, 4, 5, 6] [] rfl rfl rfl (fun w15 h1_16 hp14 => JD_bnd fun r17 hr18 => JD_one (i := 10) (by kernel_rfl) ?_)
  refine JO_call rfl wn rfl Try.call58 rfl (Ca_of0 fun w hh => c_impl_size_int64 _ w (fun _ hk => hk.elim) _ _ (hh.rd0 0 rfl) _ hr18) (fun _ => JD_take (i := 11) hp14 rfl (by kernel_rfl) (by kernel_rfl) (by kernel_rfl) wn rfl (ex_eql rfl rfl) ?_)
  refine JD_take (i := 12) hp14 rfl (by kernel_rfl) (by kernel_rfl) (by kernel_rfl) wn rfl (ex_assign rfl) ?_
  refine JD_done (by kernel_rfl) ?_
  refine N_then (J_if rfl (fun h19 => ?_) (fun h19 => ?_))
  ·exact J_sr (JM rfl rfl (JL_q wn rfl (ex_nilCheck_pa 6 rfl rfl) (JL_st wn rfl (st_field_pa 6 (GFormula.at_Head _) fi_31_1 rfl rfl rfl) (fun q20 => JL_st wn rfl (st_load_pa_o 0 (opens_int _) ti_2 rfl rfl) (fun _ => JA rfl rfl (JA rfl rfl (JL_nt (J_ret (N_block_ret (N_then_ret (N_ret2 rfl (rv_tmp rfl) (rv_tmp rfl) (fun w hh => ⟨(), rfl, hh.sel [] rfl⟩))))))))))))
  ·exact J_skip (N_block (N_then (J_sr (JA rfl rfl (JA rfl rfl (JL_nt (J_ret (N_ret2 rfl (rv_tmp rfl) (rv_tmp rfl) (fun w hh => ⟨(), rfl, hh.sel [] rfl⟩)))))))))
set_option maxHeartbeats 40000000 in
theorem c_impl_Formula_last (A : Nat → Prop) (w : World) (hA : ∀ k, A k → k < w.heap.size) (v0_ : Value) (p0 : GFormula) (hp0 : Rd A w v0_ p0) (r : Int) (hr : F_impl_Formula_last p0 = some r) :
  Con Try.prog 88 [v0_] A w (fun x_ : Unit => .int .i64 r) (fun x_ => []) := by
 obtain ⟨v0_0, v0_1, v0_2, rfl, hp0_0, hp0_1, hp0_2⟩ := GFormula.open hp0
 refine Con_of (v := fun (r : Int) (x_ : Unit) => .int .i64 r) (fs := fun r x_ => []) Try.func88 rfl Try.ntmps88 rfl ((((SH.start hA).start_rd rfl hp0_0).start_rd rfl hp0_1).start_rd rfl hp0_2) rfl ?_ hr
 unfold F_impl_Formula_last
 exact J_sr (JL_st wn rfl (st_box' rfl (fun w hh => (cv_aggs ⟨cv_int, cv_int, cv_int, (hh.cv 2 rfl), (hh.cv 1 rfl), (hh.cv 0 rfl), trivial⟩))) (fun b1 => JA rfl rfl (JL_nt (J_sr (JL_q wn rfl (ex_fieldAddr fi_31_3 rfl rfl) (JL_q wn rfl (ex_load_bx 0 ti_28 rfl rfl rfl) (JL_bnd fun r2 hr3 => JL_call wn rfl Try.call57 rfl (Ca_of0 fun w hh => c_impl_size_Sint64 _ w (fun _ hk => hk.elim) _ _ (hh.rd0 3 rfl) _ hr3) (fun _ => JL_q wn rfl (ex_sub rfl rfl) (JA rfl rfl (JL_nt (J_ret (N_ret1 rfl (rv_tmp rfl) (fun w hh => ⟨(), rfl, hh.sel [] rfl⟩)))))))))))))
set_option maxHeartbeats 40000000 in
theorem c_impl_shiftOver (A : Nat → Prop) (w : World) (hA : ∀ k, A k → k < w.heap.size) (v0_ : Value) (p0 : GMachine) (hp0 : Rd A w v0_ p0) (p1 : Int) (v2_ : Value) (p2 : (List Int)) (hp2 : Rd A w v2_ p2) (p3 : Int) (r : (List Int) × Int × Int) (hr : F_impl_shiftOver p0 p1 p2 p3 = some r) :
  Con Try.prog 32 [v0_, .int .i64 p1, v2_, .int .i64 p3] A w (fun x_ : Value => .tuple #[x_, .int .i64 r.2.1, .int .i64 r.2.2]) (fun x_ => [.ow 2 x_ r.1]) := by
 obtain ⟨v0_0, rfl, hp0_0⟩ := GMachine.open hp0
 refine Con_of (v := fun (r : (List Int) × Int × Int) (x_ : Value) => .tuple #[x_, .int .i64 r.2.1, .int .i64 r.2.2]) (fs := fun r x_ => [.ow 2 x_ r.1]) Try.func32 rfl Try.ntmps32 rfl (((SH.start hA).start_rd rfl hp0_0).start_rd rfl hp2) rfl ?_ hr
 unfold F_impl_shiftOver
 refine J_sr (JL_st wn rfl (st_box' rfl (fun w hh => (cv_aggs ⟨cv_int, cv_int, (hh.cv 1 rfl), trivial⟩))) (fun b1 => JA rfl rfl (JA rfl rfl (JA rfl rfl (JL_nt (J_sr (JM rfl rfl (JL_bnd fun r2 hr3 => JL_call wn rfl Try.call46 rfl (Ca_self (fun _ => rfl) fun w hh => c_slices_Clone_Sint64_int64 _ w (fun _ hk => hk.elim) _ _ (hh.rd0 1 rfl) _ hr3) (fun x4 => JM rfl rfl (JA rfl rfl (JA rfl rfl (JA rfl rfl (JL_nt (J_seq (J_cut' (S' := Int) (G' := Unit) (fun s5 _ => [(1, .int .i64 p1), (2, v2_), (3, .int .i64 p3), (4, .pointer (some ⟨b1, 0, none⟩)), (11, x4), (12, .int .i64 s5), (13, .int .i64 p1)]) (fun s5 _ => [.rd v2_ p2, .rd v0_0 p0.Rules, .bx b1 26 [.int .i64 p0.Symbols, .int .i64 p0.States, v0_0], .ow 2 x4 r2]) ?_ (fun s5 g6 => ?_))))))))))))))))
 ·refine J_sr (JM rfl rfl (JL_q wn rfl (ex_eql rfl rfl) (JL_nt (J_if rfl (fun h7 => ?_) (fun h7 => ?_)))))
  ·exact J_region (JM rfl rfl (JL_bnd fun r8 hr9 => JL_call wn rfl Try.call58 rfl (Ca_of0 fun w hh => c_impl_size_int64 _ w (fun _ hk => hk.elim) _ _ (hh.rd0 2 rfl) _ hr9) (fun _ => JL_q wn rfl (ex_sub rfl rfl) (JA rfl rfl (JL_nil (N_meet' () ⟨rfl, rfl, rfl, rfl, rfl, rfl, rfl, trivial⟩ [2, 3, 1, 0] rfl rfl))))))
  ·exact J_skip (N_meet' () ⟨rfl, rfl, rfl, rfl, rfl, rfl, rfl, trivial⟩ [2, 3, 1, 0] rfl rfl)
 ·refine N_then (J_seq (J_sr (JA rfl rfl (JL_nt (J_loop' (S := (List Int) × Int × Int × Int) (G := Unit) (F_impl_shiftOver_L1 p0 p1 p2 p3) (fun s10 _ => [(1, .int .i64 p1), (2, v2_), (3, .int .i64 p3), (4, .pointer (some ⟨b1, 0, none⟩)), (11, x4), (12, .int .i64 s10.2.1), (13, .int .i64 s10.2.2.1), (14, .int .i64 s10.2.2.2)]) (fun s10 _ => [.rd v2_ p2, .rd v0_0 p0.Rules, .bx b1 26 [.int .i64 p0.Symbols, .int .i64 p0.States, v0_0], .ow 2 x4 s10.1]) (r2, s5, p1, 0) () ⟨rfl, rfl, rfl, rfl, rfl, rfl, rfl, rfl, trivial⟩ [0, 1, 2, 3] rfl rfl (fun s10 g11 => ?_) (fun s10 g11 => ?_))))))
  ·unfold F_impl_shiftOver_L1
   refine J_seq (J_sr (JM rfl rfl (JL_q wn rfl (ex_lss rfl rfl) (JL_nt (J_if rfl (fun h12 => ?_) (fun h12 => ?_))))))
   ·refine J_skip (N_then (J_seq (J_block (J_seq (J_draw [3] (by kernel_rfl) ?_)))))
    refine JP_take (i := 0) [0, 1, 2] [3] rfl (by kernel_rfl) (by kernel_rfl) (by kernel_rfl) rfl rfl wn rfl (ex_fieldAddr fi_26_2 rfl rfl) ?_
    refine JP_take (i := 1) [0, 1, 2] [3] rfl (by kernel_rfl) (by kernel_rfl) (by kernel_rfl) rfl rfl wn rfl (ex_load_bx 2 ti_24 rfl rfl rfl) ?_
    refine JP_take (i := 2) [0, 1, 2] [3] rfl (by kernel_rfl) (by kernel_rfl) (by kernel_rfl) rfl rfl wn rfl (ex_move rfl) ?_
    refine JP_take (i := 3) [0, 1, 2] [3] rfl (by kernel_rfl) (by kernel_rfl) (by kernel_rfl) rfl rfl wn rfl (ex_fieldAddr fi_26_0 rfl rfl) ?_
    refine JP_take (i := 4) [0, 1, 2] [3] rfl (by kernel_rfl) (by kernel_rfl) (by kernel_rfl) rfl rfl wn rfl (ex_load_bx 2 ti_2 rfl rfl rfl) ?_
    refine JP_take (i := 5) [0, 1, 2] [3] rfl (by kernel_rfl) (by kernel_rfl) (by kernel_rfl) rfl rfl wn rfl (ex_mul rfl rfl) ?_
    refine JP_take (i := 6) [0, 1, 2] [3] rfl (by kernel_rfl) (by kernel_rfl) (by kernel_rfl) rfl rfl wn rfl (ex_move rfl) ?_
    refine JP_take (i := 7) [0, 1, 2] [3] rfl (by kernel_rfl) (by kernel_rfl) (by kernel_rfl) rfl rfl wn rfl (ex_move rfl) ?_
    refine JP_bnd fun y13 hy14 => ?_
    refine JP_ow_open (v := x4) 3 rfl hy14 ?_; rintro b15 cap16 rfl
    refine JP_take (i := 8) [0, 1, 2] [3] rfl (by kernel_rfl) (by kernel_rfl) (by kernel_rfl) rfl rfl wn rfl (ex_index_own Try.underlying29 ti_2 rfl rfl hy14 (by first | rfl | simp)) ?_
    refine JP_go [0, 1, 2] [3] rfl rfl rfl (fun w18 h1_19 hp17 => JD_two (i := 9) (j := 13) (by kernel_rfl) ?_ ?_)
    ·refine JO_q rfl wn rfl (ex_load_ow_int 3 ti_2 rfl rfl hy14) (JD_take (i := 10) hp17 rfl (by kernel_rfl) (by kernel_rfl) (by kernel_rfl) wn rfl (ex_add rfl rfl) ?_)
     refine JD_bnd fun y21 hy22 => JD_sq (i := 11) (fs := fun q23 => [.pt q23 y21]) [3] h1_19 rfl rfl (by kernel_rfl) (by kernel_rfl) (by kernel_rfl) wn rfl (sq_index 1 Try.underlying24 ti_88 rfl rfl rfl hy22) (fun _ => rfl) (fun q23 h1_24 => ?_)
     refine JD_sq (i := 12) [4] h1_24 rfl rfl (by kernel_rfl) (by kernel_rfl) (by kernel_rfl) wn rfl (sq_load_pt_o 0 (GRule.opens _) ti_88 rfl rfl) (fun _ => rfl) (fun _ h1_26 => ?_)
     refine JD_one (i := 13) (by kernel_rfl) ?_
     refine JO_st rfl wn rfl (st_alloc zi_88 rfl) (fun _ hk => nomatch hk) (fun b27 => JD_one (i := 14) (by kernel_rfl) ?_)
     refine JO_sk2 0 [4] [0, 1, 2, 3] [1, 2, 3, 4] rfl rfl rfl rfl rfl rfl wn (sk_store_bx' 0 ti_88 rfl rfl (fun w hh => (cv_aggs ⟨cv_int, cv_int, cv_int, trivial⟩)) rfl rfl rfl rfl) (fun _ hk => hk) (JD_done (by kernel_rfl) ?_)
     refine N_then (J_seq (J_sr (JL_q wn rfl (ex_load_bx_agg 0 ti_88 rfl rfl rfl rfl) (JL_bnd fun r28 hr29 => JL_call wn rfl Try.call60 rfl (Ca_of0 fun w hh => c_impl_isRule _ w (fun _ hk => hk.elim) _ _ (GRule.rdmk (Rd.mk_int _ _ _) (Rd.mk_int _ _ _) (Rd.mk_int _ _ _)) _ hr29) (fun _ => JL_q wn rfl (ex_not rfl) (JL_nt (J_if rfl (fun h30 => ?_) (fun h30 => ?_))))))))
     ·exact J_sr (JA rfl rfl (JA rfl rfl (JA rfl rfl (JL_nt (J_ret (N_then_ret (N_block_ret (N_then_ret (N_round_ret (N_then_ret (N_ctx (fun w hh => SH.ow_nil (α := Int) 2 hh) (N_ret3 rfl (rv_tmp rfl) (rv_tmp rfl) (rv_tmp rfl) (fun w hh => ⟨(.slice none 0 0 : Value), rfl, hh.sel [0] rfl⟩)))))))))))))
     ·refine J_skip (N_then (J_sr (JM rfl rfl (JM rfl rfl (JL_q wn rfl (ex_fieldAddr fi_88_0 rfl rfl) (JL_q wn rfl (ex_load_bx 0 ti_2 rfl rfl rfl) (JL_bnd fun y31 hy32 => JL_q wn rfl (ex_index_ow 5 Try.underlying29 ti_2 rfl rfl rfl hy32) (JL_sk wn (sk_store_ow 5 ti_2 rfl rfl rfl hy32 (fun w hh => (Rd.mk_int _ _ _))) (JL_nt (J_seq (J_draw [] (by kernel_rfl) ?_)))))))))))
      refine JP_take (i := 0) [0, 1, 2, 3, 4, 5] [] rfl (by kernel_rfl) (by kernel_rfl) (by kernel_rfl) rfl rfl wn rfl (ex_move rfl) ?_
      refine JP_take (i := 1) [0, 1, 2, 3, 4, 5] [] rfl (by kernel_rfl) (by kernel_rfl) (by kernel_rfl) rfl rfl wn rfl (ex_fieldAddr fi_88_1 rfl rfl) ?_
      refine JP_take (i := 2) [0, 1, 2, 3, 4, 5] [] rfl (by kernel_rfl) (by kernel_rfl) (by kernel_rfl) rfl rfl wn rfl (ex_load_bx 0 ti_2 rfl rfl rfl) ?_
      refine JP_take (i := 3) [0, 1, 2, 3, 4, 5] [] rfl (by kernel_rfl) (by kernel_rfl) (by kernel_rfl) rfl rfl wn rfl (ex_add rfl rfl) ?_
      refine JP_take (i := 4) [0, 1, 2, 3, 4, 5] [] rfl (by kernel_rfl) (by kernel_rfl) (by kernel_rfl) rfl rfl wn rfl (ex_fieldAddr fi_88_2 rfl rfl) ?_
      refine JP_take (i := 5) [0, 1, 2, 3, 4, 5] [] rfl (by kernel_rfl) (by kernel_rfl) (by kernel_rfl) rfl rfl wn rfl (ex_load_bx 0 ti_2 rfl rfl rfl) ?_
      refine JP_take (i := 6) [0, 1, 2, 3, 4, 5] [] rfl (by kernel_rfl) (by kernel_rfl) (by kernel_rfl) rfl rfl wn rfl (ex_assign rfl) ?_
      refine JP_take (i := 7) [0, 1, 2, 3, 4, 5] [] rfl (by kernel_rfl) (by kernel_rfl) (by kernel_rfl) rfl rfl wn rfl (ex_assign rfl) ?_
      refine JP_go [] [] rfl rfl rfl (fun _ _ _ => JD_done (by kernel_rfl) ?_)
      refine N_then (J_seq (J_sr (JM rfl rfl (JM rfl rfl (JL_bnd fun r33 hr34 => JL_call wn rfl Try.call58 rfl (Ca_of0 fun w hh => c_impl_size_int64 _ w (fun _ hk => hk.elim) _ _ (hh.rd0 2 rfl) _ hr34) (fun _ => JL_q wn rfl (ex_sub rfl rfl) (JL_bnd fun r35 hr36 => JL_call wn rfl Try.call31 rfl (Ca_of0 fun w hh => c_impl_within _ w (fun _ hk => hk.elim) _ _ _ _ hr36) (fun _ => JL_nt (J_if rfl (fun h37 => ?_) (fun h37 => ?_))))))))))
      ·exact J_exit (N_then_exit (N_block_exit (N_then (J_region (JM rfl rfl (JL_q wn rfl (ex_add rfl rfl) (JA rfl rfl (JL_nil (N_next' () ⟨rfl, rfl, rfl, rfl, rfl, rfl, rfl, rfl, trivial⟩ [2, 3, 4, 5] rfl rfl)))))))))
      ·refine J_skip (N_then (J_seq (J_sr (JL_q wn rfl (ex_fieldAddr fi_88_1 rfl rfl) (JL_q wn rfl (ex_load_bx 0 ti_2 rfl rfl rfl) (JM rfl rfl (JL_q wn rfl (ex_neq rfl rfl) (JM rfl rfl (JL_cond (fun h38 => ?_) (fun h38 => ?_))))))))))
       ·exact JL_passed rfl rfl rfl h38 (JL_passed rfl rfl rfl h38 (JL_passed rfl rfl rfl h38 (JL_q wn rfl (ex_pick_true rfl h38 rfl) (JL_nt (J_if_true rfl rfl (J_sr (JA rfl rfl (JA rfl rfl (JA rfl rfl (JL_nt (J_ret (N_then_ret (N_block_ret (N_then_ret (N_round_ret (N_then_ret (N_ctx (fun w hh => SH.ow_nil (α := Int) 2 hh) (N_ret3 rfl (rv_tmp rfl) (rv_tmp rfl) (rv_tmp rfl) (fun w hh => ⟨(.slice none 0 0 : Value), rfl, hh.sel [0] rfl⟩)))))))))))))))))))
       ·refine JL_q (wants_some rfl rfl rfl h38) rfl (ex_move rfl) (JL_q (wants_some rfl rfl rfl h38) rfl (ex_move rfl) (JL_q (wants_some rfl rfl rfl h38) rfl (ex_neq rfl rfl) (JL_q wn rfl (ex_pick_false rfl h38 rfl) (JL_nt (J_if rfl (fun h39 => ?_) (fun h39 => ?_))))))
        ·exact J_sr (JA rfl rfl (JA rfl rfl (JA rfl rfl (JL_nt (J_ret (N_then_ret (N_block_ret (N_then_ret (N_round_ret (N_then_ret (N_ctx (fun w hh => SH.ow_nil (α := Int) 2 hh) (N_ret3 rfl (rv_tmp rfl) (rv_tmp rfl) (rv_tmp rfl) (fun w hh => ⟨(.slice none 0 0 : Value), rfl, hh.sel [0] rfl⟩)))))))))))))
        ·exact J_skip (N_then (J_sr (JM rfl rfl (JM rfl rfl (JL_q wn rfl (ex_add rfl rfl) (JA rfl rfl (JA rfl rfl (JA rfl rfl (JL_nt (J_ret (N_block_ret (N_then_ret (N_round_ret (N_then_ret (N_ret3 rfl (rv_tmp rfl) (rv_tmp rfl) (rv_tmp rfl) (fun w hh => ⟨(.slice (some ⟨b15, 0, none⟩) s10.1.length cap16), rfl, hh.sel [5] rfl⟩))))))))))))))))
    ·refine JO_st rfl wn rfl (st_alloc zi_88 rfl) (fun _ hk => nomatch hk) (fun b40 => JD_one (i := 9) (by kernel_rfl) ?_)
     refine JO_q rfl wn rfl (ex_load_ow_int 4 ti_2 rfl rfl hy14) (JD_take (i := 10) hp17 rfl (by kernel_rfl) (by kernel_rfl) (by kernel_rfl) wn rfl (ex_add rfl rfl) ?_)
     refine JD_bnd fun y42 hy43 => JD_sq (i := 11) (fs := fun q44 => [.pt q44 y42]) [3] h1_19 rfl rfl (by kernel_rfl) (by kernel_rfl) (by kernel_rfl) wn rfl (sq_index 1 Try.underlying24 ti_88 rfl rfl rfl hy43) (fun _ => rfl) (fun q44 h1_45 => ?_)
     refine JD_sq (i := 12) [4] h1_45 rfl rfl (by kernel_rfl) (by kernel_rfl) (by kernel_rfl) wn rfl (sq_load_pt_o 0 (GRule.opens _) ti_88 rfl rfl) (fun _ => rfl) (fun _ h1_47 => ?_)
     refine JD_one (i := 14) (by kernel_rfl) ?_
     refine JO_sk2 1 [4] [0, 1, 2, 3] [0, 2, 3, 4] rfl rfl rfl rfl rfl rfl wn (sk_store_bx' 1 ti_88 rfl rfl (fun w hh => (cv_aggs ⟨cv_int, cv_int, cv_int, trivial⟩)) rfl rfl rfl rfl) (fun _ hk => hk) (JD_done (by kernel_rfl) ?_)
     refine N_then (J_seq (J_sr (JL_q wn rfl (ex_load_bx_agg 1 ti_88 rfl rfl rfl rfl) (JL_bnd fun r48 hr49 => JL_call wn rfl Try.call60 rfl (Ca_of0 fun w hh => c_impl_isRule _ w (fun _ hk => hk.elim) _ _ (GRule.rdmk (Rd.mk_int _ _ _) (Rd.mk_int _ _ _) (Rd.mk_int _ _ _)) _ hr49) (fun _ => JL_q wn rfl (ex_not rfl) (JL_nt (J_if rfl (fun h50 => ?_) (fun h50 => ?_))))))))
     ·exact J_sr (JA rfl rfl (JA rfl rfl (JA rfl rfl (JL_nt (J_ret (N_then_ret (N_block_ret (N_then_ret (N_round_ret (N_then_ret (N_ctx (fun w hh => SH.ow_nil (α := Int) 2 hh) (N_ret3 rfl (rv_tmp rfl) (rv_tmp rfl) (rv_tmp rfl) (fun w hh => ⟨(.slice none 0 0 : Value), rfl, hh.sel [0] rfl⟩)))))))))))))
     ·refine J_skip (N_then (J_sr (JM rfl rfl (JM rfl rfl (JL_q wn rfl (ex_fieldAddr fi_88_0 rfl rfl) (JL_q wn rfl (ex_load_bx 1 ti_2 rfl rfl rfl) (JL_bnd fun y51 hy52 => JL_q wn rfl (ex_index_ow 5 Try.underlying29 ti_2 rfl rfl rfl hy52) (JL_sk wn (sk_store_ow 5 ti_2 rfl rfl rfl hy52 (fun w hh => (Rd.mk_int _ _ _))) (JL_nt (J_seq (J_draw [] (by kernel_rfl) ?_)))))))))))
      refine JP_take (i := 0) [0, 1, 2, 3, 4, 5] [] rfl (by kernel_rfl) (by kernel_rfl) (by kernel_rfl) rfl rfl wn rfl (ex_move rfl) ?_
      refine JP_take (i := 1) [0, 1, 2, 3, 4, 5] [] rfl (by kernel_rfl) (by kernel_rfl) (by kernel_rfl) rfl rfl wn rfl (ex_fieldAddr fi_88_1 rfl rfl) ?_
      refine JP_take (i := 2) [0, 1, 2, 3, 4, 5] [] rfl (by kernel_rfl) (by kernel_rfl) (by kernel_rfl) rfl rfl wn rfl (ex_load_bx 1 ti_2 rfl rfl rfl) ?_
      refine JP_take (i := 3) [0, 1, 2, 3, 4, 5] [] rfl (by kernel_rfl) (by kernel_rfl) (by kernel_rfl) rfl rfl wn rfl (ex_add rfl rfl) ?_
      refine JP_take (i := 4) [0, 1, 2, 3, 4, 5] [] rfl (by kernel_rfl) (by kernel_rfl) (by kernel_rfl) rfl rfl wn rfl (ex_fieldAddr fi_88_2 rfl rfl) ?_
      refine JP_take (i := 5) [0, 1, 2, 3, 4, 5] [] rfl (by kernel_rfl) (by kernel_rfl) (by kernel_rfl) rfl rfl wn rfl (ex_load_bx 1 ti_2 rfl rfl rfl) ?_
      refine JP_take (i := 6) [0, 1, 2, 3, 4, 5] [] rfl (by kernel_rfl) (by kernel_rfl) (by kernel_rfl) rfl rfl wn rfl (ex_assign rfl) ?_
      refine JP_take (i := 7) [0, 1, 2, 3, 4, 5] [] rfl (by kernel_rfl) (by kernel_rfl) (by kernel_rfl) rfl rfl wn rfl (ex_assign rfl) ?_
      refine JP_go [] [] rfl rfl rfl (fun _ _ _ => JD_done (by kernel_rfl) ?_)
      refine N_then (J_seq (J_sr (JM rfl rfl (JM rfl rfl (JL_bnd fun r53 hr54 => JL_call wn rfl Try.call58 rfl (Ca_of0 fun w hh => c_impl_size_int64 _ w (fun _ hk => hk.elim) _ _ (hh.rd0 2 rfl) _ hr54) (fun _ => JL_q wn rfl (ex_sub rfl rfl) (JL_bnd fun r55 hr56 => JL_call wn rfl Try.call31 rfl (Ca_of0 fun w hh => c_impl_within _ w (fun _ hk => hk.elim) _ _ _ _ hr56) (fun _ => JL_nt (J_if rfl (fun h57 => ?_) (fun h57 => ?_))))))))))
      ·exact J_exit (N_then_exit (N_block_exit (N_then (J_region (JM rfl rfl (JL_q wn rfl (ex_add rfl rfl) (JA rfl rfl (JL_nil (N_next' () ⟨rfl, rfl, rfl, rfl, rfl, rfl, rfl, rfl, trivial⟩ [2, 3, 4, 5] rfl rfl)))))))))
      ·refine J_skip (N_then (J_seq (J_sr (JL_q wn rfl (ex_fieldAddr fi_88_1 rfl rfl) (JL_q wn rfl (ex_load_bx 1 ti_2 rfl rfl rfl) (JM rfl rfl (JL_q wn rfl (ex_neq rfl rfl) (JM rfl rfl (JL_cond (fun h58 => ?_) (fun h58 => ?_))))))))))
       ·exact JL_passed rfl rfl rfl h58 (JL_passed rfl rfl rfl h58 (JL_passed rfl rfl rfl h58 (JL_q wn rfl (ex_pick_true rfl h58 rfl) (JL_nt (J_if_true rfl rfl (J_sr (JA rfl rfl (JA rfl rfl (JA rfl rfl (JL_nt (J_ret (N_then_ret (N_block_ret (N_then_ret (N_round_ret (N_then_ret (N_ctx (fun w hh => SH.ow_nil (α := Int) 2 hh) (N_ret3 rfl (rv_tmp rfl) (rv_tmp rfl) (rv_tmp rfl) (fun w hh => ⟨(.slice none 0 0 : Value), rfl, hh.sel [0] rfl⟩)))))))))))))))))))
       ·refine JL_q (wants_some rfl rfl rfl h58) rfl (ex_move rfl) (JL_q (wants_some rfl rfl rfl h58) rfl (ex_move rfl) (JL_q (wants_some rfl rfl rfl h58) rfl (ex_neq rfl rfl) (JL_q wn rfl (ex_pick_false rfl h58 rfl) (JL_nt (J_if rfl (fun h59 => ?_) (fun h59 => ?_))))))
        ·exact J_sr (JA rfl rfl (JA rfl rfl (JA rfl rfl (JL_nt (J_ret (N_then_ret (N_block_ret (N_then_ret (N_round_ret (N_then_ret (N_ctx (fun w hh => SH.ow_nil (α := Int) 2 hh) (N_ret3 rfl (rv_tmp rfl) (rv_tmp rfl) (rv_tmp rfl) (fun w hh => ⟨(.slice none 0 0 : Value), rfl, hh.sel [0] rfl⟩)))))))))))))
        ·exact J_skip (N_then (J_sr (JM rfl rfl (JM rfl rfl (JL_q wn rfl (ex_add rfl rfl) (JA rfl rfl (JA rfl rfl (JA rfl rfl (JL_nt (J_ret (N_block_ret (N_then_ret (N_round_ret (N_then_ret (N_ret3 rfl (rv_tmp rfl) (rv_tmp rfl) (rv_tmp rfl) (fun w hh => ⟨(.slice (some ⟨b15, 0, none⟩) s10.1.length cap16), rfl, hh.sel [5] rfl⟩))))))))))))))))
   ·exact J_exit (N_then_exit (N_break' () ⟨rfl, rfl, rfl, rfl, rfl, rfl, rfl, rfl, trivial⟩ [0, 1, 2, 3] rfl rfl))
  ·exact N_then (J_sr (JA rfl rfl (JA rfl rfl (JA rfl rfl (JL_nt (J_ret (N_ctx (fun w hh => SH.ow_nil (α := Int) 2 hh) (N_ret3 rfl (rv_tmp rfl) (rv_tmp rfl) (rv_tmp rfl) (fun w hh => ⟨(.slice none 0 0 : Value), rfl, hh.sel [0] rfl⟩)))))))))
end Go.Proofs.Ytgpimmdigeobbaa
