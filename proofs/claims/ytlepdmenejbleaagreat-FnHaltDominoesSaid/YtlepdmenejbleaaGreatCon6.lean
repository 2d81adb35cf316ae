/-
  Each function of the program computes what its plain function says: printed by program. No condition.
-/
import Derived.Test.YtlepdmenejbleaaGreatFn
import Derived.Test.YtlepdmenejbleaaGreatInf
import Derived.Test.YtlepdmenejbleaaGreatCon1
import Derived.Test.YtlepdmenejbleaaGreatCon5
namespace Go.Proofs.YtlepdmenejbleaaGreat
open Go Go.Tc Go.Fn
set_option linter.unusedVariables false
set_option maxHeartbeats 40000000 in
theorem c_spec_l06Row (A : Nat → Prop) (w : World) (hA : ∀ k, A k → k < w.heap.size) (v0_ : Value) (p0 : (List Int)) (hp0 : Rd A w v0_ p0) (p1 : Int) (p2 : Int) (p3 : Int) (r : Bool) (hr : F_spec_l06Row p0 p1 p2 p3 = some r) :
  Con Tryz.prog 98 [v0_, .int .i64 p1, .int .i64 p2, .int .i64 p3] A w (fun x_ : Unit => .bool r) (fun x_ => []) := by
 refine Con_of (v := fun (r : Bool) (x_ : Unit) => .bool r) (fs := fun r x_ => []) Tryz.func98 rfl Tryz.ntmps98 rfl ((SH.start hA).start_rd rfl hp0) rfl ?_ hr
 unfold F_spec_l06Row
 refine J_sr ?_
 refine JA rfl rfl ?_
 refine JL_nt ?_
 refine J_seq ?_
 refine J_sr ?_
 refine JM rfl rfl ?_
 refine JL_q wn rfl (ex_len_rd 0 Tryz.underlying27 rfl rfl) ?_
 refine JM rfl rfl ?_
 refine JL_q wn rfl (ex_neq rfl rfl) ?_
 refine JL_nt ?_
 refine J_if rfl (fun h1 => ?_) (fun h1 => ?_)
 ·refine J_sr ?_
  refine JA rfl rfl ?_
  refine JL_nt ?_
  refine J_ret ?_
  refine N_then_ret ?_
  exact N_ret1 rfl (rv_tmp rfl) (fun w hh => ⟨(), rfl, hh.sel [] rfl⟩)
 ·refine J_skip ?_
  refine N_then ?_
  refine J_seq ?_
  refine J_sr ?_
  refine JA rfl rfl ?_
  refine JL_nt ?_
  refine J_loop' (S := Int) (G := Unit) (F_spec_l06Row_L1 p0 p2 p3) (fun s2 _ => [(0, v0_), (2, .int .i64 p2), (3, .int .i64 p3), (9, .int .i64 s2)]) (fun s2 _ => [.rd v0_ p0]) 0 () ⟨rfl, rfl, rfl, rfl, trivial⟩ [0] rfl rfl (fun s2 g3 => ?_) (fun s2 g3 => ?_)
  ·unfold F_spec_l06Row_L1
   refine J_seq ?_
   refine J_sr ?_
   refine JM rfl rfl ?_
   refine JM rfl rfl ?_
   refine JL_q wn rfl (ex_len_rd 0 Tryz.underlying27 rfl rfl) ?_
   refine JL_q wn rfl (ex_lss rfl rfl) ?_
   refine JL_nt ?_
   refine J_if rfl (fun h4 => ?_) (fun h4 => ?_)
   ·refine J_skip ?_
    refine N_then ?_
    refine J_seq ?_
    refine J_block ?_
    refine J_sr ?_
    refine JM rfl rfl ?_
    refine JM rfl rfl ?_
    refine JL_bnd fun y5 hy6 => ?_
    refine JL_st wn rfl (st_index 0 Tryz.underlying27 ti_2 rfl rfl rfl hy6) (fun q7 => ?_)
    refine JL_st wn rfl (st_load_pt_o 0 (opens_int _) ti_2 rfl rfl) (fun _ => ?_)
    refine JM rfl rfl ?_
    refine JM rfl rfl ?_
    refine JL_bnd fun r9 hr10 => ?_
    refine JL_call wn rfl Tryz.call118 rfl (Ca_of0 fun w hh => c_spec_l00In _ w (fun _ hk => hk.elim) _ _ _ _ hr10) (fun _ => ?_)
    refine JL_q wn rfl (ex_not rfl) ?_
    refine JL_nt ?_
    refine J_if rfl (fun h11 => ?_) (fun h11 => ?_)
    ·refine J_sr ?_
     refine JA rfl rfl ?_
     refine JL_nt ?_
     refine J_ret ?_
     refine N_block_ret ?_
     refine N_then_ret ?_
     refine N_round_ret ?_
     refine N_then_ret ?_
     exact N_ret1 rfl (rv_tmp rfl) (fun w hh => ⟨(), rfl, hh.sel [] rfl⟩)
    ·refine J_skip ?_
     refine N_block ?_
     refine N_then ?_
     refine J_region ?_
     refine JM rfl rfl ?_
     refine JL_q wn rfl (ex_add rfl rfl) ?_
     refine JA rfl rfl ?_
     refine JL_nil ?_
     exact N_next' () ⟨rfl, rfl, rfl, rfl, trivial⟩ [1] rfl rfl
   ·refine J_exit ?_
    refine N_then_exit ?_
    exact N_break' () ⟨rfl, rfl, rfl, rfl, trivial⟩ [0] rfl rfl
  ·refine N_then ?_
   refine J_sr ?_
   refine JA rfl rfl ?_
   refine JL_nt ?_
   refine J_ret ?_
   exact N_ret1 rfl (rv_tmp rfl) (fun w hh => ⟨(), rfl, hh.sel [] rfl⟩)
set_option maxHeartbeats 40000000 in
theorem c_spec_l32Least (A : Nat → Prop) (w : World) (hA : ∀ k, A k → k < w.heap.size) (v0_ : Value) (p0 : (List GDomino)) (hp0 : Rd A w v0_ p0) (p1 : Int) (r : Bool) (hr : F_spec_l32Least p0 p1 = some r) :
  Con Tryz.prog 97 [v0_, .int .i64 p1] A w (fun x_ : Unit => .bool r) (fun x_ => []) := by
 refine Con_of (v := fun (r : Bool) (x_ : Unit) => .bool r) (fs := fun r x_ => []) Tryz.func97 rfl Tryz.ntmps97 rfl ((SH.start hA).start_rd rfl hp0) rfl ?_ hr
 unfold F_spec_l32Least
 refine J_sr ?_
 refine JA rfl rfl ?_
 refine JL_nt ?_
 refine J_seq ?_
 refine J_sr ?_
 refine JA rfl rfl ?_
 refine JL_nt ?_
 refine J_loop' (S := Int) (G := Unit) (F_spec_l32Least_L1 p0 p1) (fun s1 _ => [(0, v0_), (1, .int .i64 p1), (5, .int .i64 s1)]) (fun s1 _ => [.rd v0_ p0]) 0 () ⟨rfl, rfl, rfl, trivial⟩ [0] rfl rfl (fun s1 g2 => ?_) (fun s1 g2 => ?_)
 ·unfold F_spec_l32Least_L1
  refine J_seq ?_
  refine J_sr ?_
  refine JM rfl rfl ?_
  refine JM rfl rfl ?_
  refine JL_q wn rfl (ex_len_rd 0 Tryz.underlying47 rfl rfl) ?_
  refine JL_q wn rfl (ex_lss rfl rfl) ?_
  refine JL_nt ?_
  refine J_if rfl (fun h3 => ?_) (fun h3 => ?_)
  ·refine J_skip ?_
   refine N_then ?_
   refine J_seq ?_
   refine J_block ?_
   refine J_seq ?_
   refine J_draw [] (by kernel_rfl) ?_
   refine JP_take (i := 0) [0] [] rfl (by kernel_rfl) (by kernel_rfl) (by kernel_rfl) rfl rfl wn rfl (ex_move rfl) ?_
   refine JP_take (i := 1) [0] [] rfl (by kernel_rfl) (by kernel_rfl) (by kernel_rfl) rfl rfl wn rfl (ex_move rfl) ?_
   refine JP_bnd fun y4 hy5 => ?_
   refine JP_sq (i := 2) [] rfl (by kernel_rfl) (by kernel_rfl) (by kernel_rfl) rfl wn rfl (sq_index 0 Tryz.underlying47 ti_95 rfl rfl rfl hy5) (fun q6 => ?_)
   refine JP_sq (i := 3) [] rfl (by kernel_rfl) (by kernel_rfl) (by kernel_rfl) rfl wn rfl (sq_field_pt 0 (GDomino.at_Top _) fi_95_0 rfl rfl rfl) (fun q7 => ?_)
   refine JP_sq (i := 4) [] rfl (by kernel_rfl) (by kernel_rfl) (by kernel_rfl) rfl wn rfl (sq_load_pt_o 0 (opens_sl _) ti_27 rfl rfl) (fun v8 => ?_)
   refine JP_take (i := 5) [0, 1, 2, 3] [] rfl (by kernel_rfl) (by kernel_rfl) (by kernel_rfl) rfl rfl wn rfl (ex_move rfl) ?_
   refine JP_take (i := 6) [0, 1, 2, 3] [] rfl (by kernel_rfl) (by kernel_rfl) (by kernel_rfl) rfl rfl wn rfl (ex_move rfl) ?_
   refine JP_bnd fun y9 hy10 => ?_
   refine JP_sq (i := 7) [] rfl (by kernel_rfl) (by kernel_rfl) (by kernel_rfl) rfl wn rfl (sq_index 3 Tryz.underlying47 ti_95 rfl rfl rfl hy10) (fun q11 => ?_)
   refine JP_sq (i := 8) [] rfl (by kernel_rfl) (by kernel_rfl) (by kernel_rfl) rfl wn rfl (sq_field_pt 0 (GDomino.at_Top _) fi_95_0 rfl rfl rfl) (fun q12 => ?_)
   refine JP_sq (i := 9) [] rfl (by kernel_rfl) (by kernel_rfl) (by kernel_rfl) rfl wn rfl (sq_load_pt_o 0 (opens_sl _) ti_27 rfl rfl) (fun v13 => ?_)
   refine JP_take (i := 10) [0, 1, 2, 3, 4, 5, 6] [] rfl (by kernel_rfl) (by kernel_rfl) (by kernel_rfl) rfl rfl wn rfl (ex_len_rd 0 Tryz.underlying27 rfl rfl) ?_
   refine JP_take (i := 11) [0, 1, 2, 3, 4, 5, 6] [] rfl (by kernel_rfl) (by kernel_rfl) (by kernel_rfl) rfl rfl wn rfl (ex_move rfl) ?_
   refine JP_go [0, 1, 2, 3, 4, 5, 6] [] rfl rfl rfl (fun w15 h1_16 hp14 => ?_)
   refine JD_bnd fun r17 hr18 => ?_
   refine JD_one (i := 12) (by kernel_rfl) ?_
   refine JO_call rfl wn rfl Tryz.call98 rfl (Ca_of0 fun w hh => c_spec_l06Row _ w (fun _ hk => hk.elim) _ _ (hh.rd0 3 rfl) _ _ _ _ hr18) (fun _ => ?_)
   refine JD_take (i := 13) hp14 rfl (by kernel_rfl) (by kernel_rfl) (by kernel_rfl) wn rfl (ex_not rfl) ?_
   refine JD_take (i := 14) hp14 rfl (by kernel_rfl) (by kernel_rfl) (by kernel_rfl) wn rfl (ex_move rfl) ?_
   refine JD_cond (fun h19 => ?_) (fun h19 => ?_)
   ·refine JD_pass (i := 15) rfl (by kernel_rfl) (by kernel_rfl) (by kernel_rfl) rfl rfl h19 rfl ?_
    refine JD_pass (i := 16) rfl (by kernel_rfl) (by kernel_rfl) (by kernel_rfl) rfl rfl h19 rfl ?_
    refine JD_pass (i := 17) rfl (by kernel_rfl) (by kernel_rfl) (by kernel_rfl) rfl rfl h19 rfl ?_
    refine JD_pass (i := 18) rfl (by kernel_rfl) (by kernel_rfl) (by kernel_rfl) rfl rfl h19 rfl ?_
    refine JD_pass (i := 19) rfl (by kernel_rfl) (by kernel_rfl) (by kernel_rfl) rfl rfl h19 rfl ?_
    refine JD_pass (i := 20) rfl (by kernel_rfl) (by kernel_rfl) (by kernel_rfl) rfl rfl h19 rfl ?_
    refine JD_pass (i := 21) rfl (by kernel_rfl) (by kernel_rfl) (by kernel_rfl) rfl rfl h19 rfl ?_
    refine JD_pass (i := 22) rfl (by kernel_rfl) (by kernel_rfl) (by kernel_rfl) rfl rfl h19 rfl ?_
    refine JD_pass (i := 23) rfl (by kernel_rfl) (by kernel_rfl) (by kernel_rfl) rfl rfl h19 rfl ?_
    refine JD_pass (i := 24) rfl (by kernel_rfl) (by kernel_rfl) (by kernel_rfl) rfl rfl h19 rfl ?_
    refine JD_pass (i := 25) rfl (by kernel_rfl) (by kernel_rfl) (by kernel_rfl) rfl rfl h19 rfl ?_
    refine JD_pass (i := 26) rfl (by kernel_rfl) (by kernel_rfl) (by kernel_rfl) rfl rfl h19 rfl ?_
    refine JD_pass (i := 27) rfl (by kernel_rfl) (by kernel_rfl) (by kernel_rfl) rfl rfl h19 rfl ?_
    refine JD_pass (i := 28) rfl (by kernel_rfl) (by kernel_rfl) (by kernel_rfl) rfl rfl h19 rfl ?_
    refine JD_take (i := 29) hp14 rfl (by kernel_rfl) (by kernel_rfl) (by kernel_rfl) wn rfl (ex_pick_true rfl h19 rfl) ?_
    refine JD_done (by kernel_rfl) ?_
    refine N_then ?_
    refine J_if_true rfl rfl ?_
    refine J_sr ?_
    refine JA rfl rfl ?_
    refine JL_nt ?_
    refine J_ret ?_
    refine N_block_ret ?_
    refine N_then_ret ?_
    refine N_round_ret ?_
    refine N_then_ret ?_
    exact N_ret1 rfl (rv_tmp rfl) (fun w hh => ⟨(), rfl, hh.sel [] rfl⟩)
   ·refine JD_take (i := 15) hp14 rfl (by kernel_rfl) (by kernel_rfl) (by kernel_rfl) (wants_some rfl rfl rfl h19) rfl (ex_move rfl) ?_
    refine JD_take (i := 16) hp14 rfl (by kernel_rfl) (by kernel_rfl) (by kernel_rfl) (wants_some rfl rfl rfl h19) rfl (ex_move rfl) ?_
    refine JD_bnd fun y20 hy21 => ?_
    refine JD_sq (i := 17) (fs := fun q22 => [.pt q22 y20]) [] h1_16 rfl rfl (by kernel_rfl) (by kernel_rfl) (by kernel_rfl) (wants_some rfl rfl rfl h19) rfl (sq_index 6 Tryz.underlying47 ti_95 rfl rfl rfl hy21) (fun _ => rfl) (fun q22 h1_23 => ?_)
    refine JD_sq (i := 18) (fs := fun q24 => [.pt q24 y20.Bottom]) [] h1_23 rfl rfl (by kernel_rfl) (by kernel_rfl) (by kernel_rfl) (wants_some rfl rfl rfl h19) rfl (sq_field_pt 0 (GDomino.at_Bottom _) fi_95_1 rfl rfl rfl) (fun _ => rfl) (fun q24 h1_25 => ?_)
    refine JD_sq (i := 19) [] h1_25 rfl rfl (by kernel_rfl) (by kernel_rfl) (by kernel_rfl) (wants_some rfl rfl rfl h19) rfl (sq_load_pt_o 0 (opens_sl _) ti_27 rfl rfl) (fun _ => rfl) (fun v26 h1_27 => ?_)
    refine JD_take (i := 20) hp14 rfl (by kernel_rfl) (by kernel_rfl) (by kernel_rfl) (wants_some rfl rfl rfl h19) rfl (ex_move rfl) ?_
    refine JD_take (i := 21) hp14 rfl (by kernel_rfl) (by kernel_rfl) (by kernel_rfl) (wants_some rfl rfl rfl h19) rfl (ex_move rfl) ?_
    refine JD_bnd fun y28 hy29 => ?_
    refine JD_sq (i := 22) (fs := fun q30 => [.pt q30 y28]) [] h1_27 rfl rfl (by kernel_rfl) (by kernel_rfl) (by kernel_rfl) (wants_some rfl rfl rfl h19) rfl (sq_index 9 Tryz.underlying47 ti_95 rfl rfl rfl hy29) (fun _ => rfl) (fun q30 h1_31 => ?_)
    refine JD_sq (i := 23) (fs := fun q32 => [.pt q32 y28.Bottom]) [] h1_31 rfl rfl (by kernel_rfl) (by kernel_rfl) (by kernel_rfl) (wants_some rfl rfl rfl h19) rfl (sq_field_pt 0 (GDomino.at_Bottom _) fi_95_1 rfl rfl rfl) (fun _ => rfl) (fun q32 h1_33 => ?_)
    refine JD_sq (i := 24) [] h1_33 rfl rfl (by kernel_rfl) (by kernel_rfl) (by kernel_rfl) (wants_some rfl rfl rfl h19) rfl (sq_load_pt_o 0 (opens_sl _) ti_27 rfl rfl) (fun _ => rfl) (fun v34 h1_35 => ?_)
    refine JD_take (i := 26) hp14 rfl (by kernel_rfl) (by kernel_rfl) (by kernel_rfl) (wants_some rfl rfl rfl h19) rfl (ex_move rfl) ?_
    refine JD_one (i := 25) (by kernel_rfl) ?_
    refine JO_q rfl (wants_some rfl rfl rfl h19) rfl (ex_len_rd 0 Tryz.underlying27 rfl rfl) ?_
    refine JD_bnd fun r36 hr37 => ?_
    refine JD_one (i := 27) (by kernel_rfl) ?_
    refine JO_call rfl (wants_some rfl rfl rfl h19) rfl Tryz.call98 rfl (Ca_of0 fun w hh => c_spec_l06Row _ w (fun _ hk => hk.elim) _ _ (hh.rd0 3 rfl) _ _ _ _ hr37) (fun _ => ?_)
    refine JD_take (i := 28) hp14 rfl (by kernel_rfl) (by kernel_rfl) (by kernel_rfl) (wants_some rfl rfl rfl h19) rfl (ex_not rfl) ?_
    refine JD_take (i := 29) hp14 rfl (by kernel_rfl) (by kernel_rfl) (by kernel_rfl) wn rfl (ex_pick_false rfl h19 rfl) ?_
    refine JD_done (by kernel_rfl) ?_
    refine N_then ?_
    refine J_if rfl (fun h38 => ?_) (fun h38 => ?_)
    ·refine J_sr ?_
     refine JA rfl rfl ?_
     refine JL_nt ?_
     refine J_ret ?_
     refine N_block_ret ?_
     refine N_then_ret ?_
     refine N_round_ret ?_
     refine N_then_ret ?_
     exact N_ret1 rfl (rv_tmp rfl) (fun w hh => ⟨(), rfl, hh.sel [] rfl⟩)
    ·refine J_skip ?_
     refine N_block ?_
     refine N_then ?_
     refine J_region ?_
     refine JM rfl rfl ?_
     refine JL_q wn rfl (ex_add rfl rfl) ?_
     refine JA rfl rfl ?_
     refine JL_nil ?_
     exact N_next' () ⟨rfl, rfl, rfl, trivial⟩ [12] rfl rfl
  ·refine J_exit ?_
   refine N_then_exit ?_
   exact N_break' () ⟨rfl, rfl, rfl, trivial⟩ [0] rfl rfl
 ·refine N_then ?_
  refine J_sr ?_
  refine JA rfl rfl ?_
  refine JL_nt ?_
  refine J_ret ?_
  exact N_ret1 rfl (rv_tmp rfl) (fun w hh => ⟨(), rfl, hh.sel [] rfl⟩)
set_option maxHeartbeats 40000000 in
theorem c_spec_l32Is (A : Nat → Prop) (w : World) (hA : ∀ k, A k → k < w.heap.size) (v0_ : Value) (p0 : (List GDomino)) (hp0 : Rd A w v0_ p0) (r : Bool) (hr : F_spec_l32Is p0 = some r) :
  Con Tryz.prog 99 [v0_] A w (fun x_ : Unit => .bool r) (fun x_ => []) := by
 refine Con_of (v := fun (r : Bool) (x_ : Unit) => .bool r) (fs := fun r x_ => []) Tryz.func99 rfl Tryz.ntmps99 rfl ((SH.start hA).start_rd rfl hp0) rfl ?_ hr
 unfold F_spec_l32Is
 refine J_sr ?_
 refine JA rfl rfl ?_
 refine JL_nt ?_
 refine J_seq ?_
 refine J_cut' (S' := Unit) (G' := Unit) (fun _ _ => [(0, v0_)]) (fun _ _ => [.rd v0_ p0]) ?_ (fun s1 g2 => ?_)
 ·refine J_sr ?_
  refine JM rfl rfl ?_
  refine JL_q wn rfl (ex_len_rd 0 Tryz.underlying47 rfl rfl) ?_
  refine JL_q wn rfl (ex_lss rfl rfl) ?_
  refine JM rfl rfl ?_
  refine JL_cond (fun h3 => ?_) (fun h3 => ?_)
  ·refine JL_passed rfl rfl rfl h3 ?_
   refine JL_passed rfl rfl rfl h3 ?_
   refine JL_passed rfl rfl rfl h3 ?_
   refine JL_q wn rfl (ex_pick_true rfl h3 rfl) ?_
   refine JL_nt ?_
   refine J_if_true rfl rfl ?_
   refine J_sr ?_
   refine JA rfl rfl ?_
   refine JL_nt ?_
   refine J_ret ?_
   refine N_mid_ret ?_
   refine N_then_ret ?_
   exact N_ret1 rfl (rv_tmp rfl) (fun w hh => ⟨(), rfl, hh.sel [] rfl⟩)
  ·refine JL_q (wants_some rfl rfl rfl h3) rfl (ex_move rfl) ?_
   refine JL_q (wants_some rfl rfl rfl h3) rfl (ex_len_rd 0 Tryz.underlying47 rfl rfl) ?_
   refine JL_q (wants_some rfl rfl rfl h3) rfl (ex_gtr rfl rfl) ?_
   refine JL_q wn rfl (ex_pick_false rfl h3 rfl) ?_
   refine JL_nt ?_
   refine J_if rfl (fun h4 => ?_) (fun h4 => ?_)
   ·refine J_sr ?_
    refine JA rfl rfl ?_
    refine JL_nt ?_
    refine J_ret ?_
    refine N_mid_ret ?_
    refine N_then_ret ?_
    exact N_ret1 rfl (rv_tmp rfl) (fun w hh => ⟨(), rfl, hh.sel [] rfl⟩)
   ·refine J_skip ?_
    exact N_meet' () ⟨rfl, trivial⟩ [0] rfl rfl
 ·refine N_then ?_
  refine J_seq ?_
  refine J_sr ?_
  refine JA rfl rfl ?_
  refine JL_nt ?_
  refine J_loop' (S := Int) (G := Unit) (F_spec_l32Is_L1 p0) (fun s5 _ => [(0, v0_), (3, .int .i64 s5)]) (fun s5 _ => [.rd v0_ p0]) 0 () ⟨rfl, rfl, trivial⟩ [0] rfl rfl (fun s5 g6 => ?_) (fun s5 g6 => ?_)
  ·unfold F_spec_l32Is_L1
   refine J_seq ?_
   refine J_sr ?_
   refine JM rfl rfl ?_
   refine JM rfl rfl ?_
   refine JL_q wn rfl (ex_len_rd 0 Tryz.underlying47 rfl rfl) ?_
   refine JL_q wn rfl (ex_lss rfl rfl) ?_
   refine JL_nt ?_
   refine J_if rfl (fun h7 => ?_) (fun h7 => ?_)
   ·refine J_skip ?_
    refine N_then ?_
    refine J_seq ?_
    refine J_block ?_
    refine J_seq ?_
    refine J_draw [] (by kernel_rfl) ?_
    refine JP_take (i := 0) [0] [] rfl (by kernel_rfl) (by kernel_rfl) (by kernel_rfl) rfl rfl wn rfl (ex_move rfl) ?_
    refine JP_take (i := 1) [0] [] rfl (by kernel_rfl) (by kernel_rfl) (by kernel_rfl) rfl rfl wn rfl (ex_move rfl) ?_
    refine JP_bnd fun y8 hy9 => ?_
    refine JP_sq (i := 2) [] rfl (by kernel_rfl) (by kernel_rfl) (by kernel_rfl) rfl wn rfl (sq_index 0 Tryz.underlying47 ti_95 rfl rfl rfl hy9) (fun q10 => ?_)
    refine JP_sq (i := 3) [] rfl (by kernel_rfl) (by kernel_rfl) (by kernel_rfl) rfl wn rfl (sq_field_pt 0 (GDomino.at_Top _) fi_95_0 rfl rfl rfl) (fun q11 => ?_)
    refine JP_sq (i := 4) [] rfl (by kernel_rfl) (by kernel_rfl) (by kernel_rfl) rfl wn rfl (sq_load_pt_o 0 (opens_sl _) ti_27 rfl rfl) (fun v12 => ?_)
    refine JP_go [0, 1, 2, 3] [] rfl rfl rfl (fun w14 h1_15 hp13 => ?_)
    refine JD_bnd fun r16 hr17 => ?_
    refine JD_one (i := 5) (by kernel_rfl) ?_
    refine JO_call rfl wn rfl Tryz.call96 rfl (Ca_of0 fun w hh => c_spec_l03Is _ w (fun _ hk => hk.elim) _ _ (hh.rd0 0 rfl) _ hr17) (fun _ => ?_)
    refine JD_take (i := 6) hp13 rfl (by kernel_rfl) (by kernel_rfl) (by kernel_rfl) wn rfl (ex_not rfl) ?_
    refine JD_take (i := 7) hp13 rfl (by kernel_rfl) (by kernel_rfl) (by kernel_rfl) wn rfl (ex_move rfl) ?_
    refine JD_cond (fun h18 => ?_) (fun h18 => ?_)
    ·refine JD_pass (i := 8) rfl (by kernel_rfl) (by kernel_rfl) (by kernel_rfl) rfl rfl h18 rfl ?_
     refine JD_pass (i := 9) rfl (by kernel_rfl) (by kernel_rfl) (by kernel_rfl) rfl rfl h18 rfl ?_
     refine JD_pass (i := 10) rfl (by kernel_rfl) (by kernel_rfl) (by kernel_rfl) rfl rfl h18 rfl ?_
     refine JD_pass (i := 11) rfl (by kernel_rfl) (by kernel_rfl) (by kernel_rfl) rfl rfl h18 rfl ?_
     refine JD_pass (i := 12) rfl (by kernel_rfl) (by kernel_rfl) (by kernel_rfl) rfl rfl h18 rfl ?_
     refine JD_pass (i := 13) rfl (by kernel_rfl) (by kernel_rfl) (by kernel_rfl) rfl rfl h18 rfl ?_
     refine JD_pass (i := 14) rfl (by kernel_rfl) (by kernel_rfl) (by kernel_rfl) rfl rfl h18 rfl ?_
     refine JD_take (i := 15) hp13 rfl (by kernel_rfl) (by kernel_rfl) (by kernel_rfl) wn rfl (ex_pick_true rfl h18 rfl) ?_
     refine JD_take (i := 16) hp13 rfl (by kernel_rfl) (by kernel_rfl) (by kernel_rfl) wn rfl (ex_move rfl) ?_
     refine JD_pass (i := 17) rfl (by kernel_rfl) (by kernel_rfl) (by kernel_rfl) rfl rfl rfl rfl ?_
     refine JD_pass (i := 18) rfl (by kernel_rfl) (by kernel_rfl) (by kernel_rfl) rfl rfl rfl rfl ?_
     refine JD_pass (i := 19) rfl (by kernel_rfl) (by kernel_rfl) (by kernel_rfl) rfl rfl rfl rfl ?_
     refine JD_pass (i := 20) rfl (by kernel_rfl) (by kernel_rfl) (by kernel_rfl) rfl rfl rfl rfl ?_
     refine JD_pass (i := 21) rfl (by kernel_rfl) (by kernel_rfl) (by kernel_rfl) rfl rfl rfl rfl ?_
     refine JD_pass (i := 22) rfl (by kernel_rfl) (by kernel_rfl) (by kernel_rfl) rfl rfl rfl rfl ?_
     refine JD_pass (i := 23) rfl (by kernel_rfl) (by kernel_rfl) (by kernel_rfl) rfl rfl rfl rfl ?_
     refine JD_pass (i := 24) rfl (by kernel_rfl) (by kernel_rfl) (by kernel_rfl) rfl rfl rfl rfl ?_
     refine JD_pass (i := 25) rfl (by kernel_rfl) (by kernel_rfl) (by kernel_rfl) rfl rfl rfl rfl ?_
     refine JD_pass (i := 26) rfl (by kernel_rfl) (by kernel_rfl) (by kernel_rfl) rfl rfl rfl rfl ?_
     refine JD_pass (i := 27) rfl (by kernel_rfl) (by kernel_rfl) (by kernel_rfl) rfl rfl rfl rfl ?_
     refine JD_pass (i := 28) rfl (by kernel_rfl) (by kernel_rfl) (by kernel_rfl) rfl rfl rfl rfl ?_
     refine JD_pass (i := 29) rfl (by kernel_rfl) (by kernel_rfl) (by kernel_rfl) rfl rfl rfl rfl ?_
     refine JD_pass (i := 30) rfl (by kernel_rfl) (by kernel_rfl) (by kernel_rfl) rfl rfl rfl rfl ?_
     refine JD_take (i := 31) hp13 rfl (by kernel_rfl) (by kernel_rfl) (by kernel_rfl) wn rfl (ex_pick_true rfl rfl rfl) ?_
     refine JD_done (by kernel_rfl) ?_
     refine N_then ?_
     refine J_if_true rfl rfl ?_
     refine J_sr ?_
     refine JA rfl rfl ?_
     refine JL_nt ?_
     refine J_ret ?_
     refine N_block_ret ?_
     refine N_then_ret ?_
     refine N_round_ret ?_
     refine N_then_ret ?_
     exact N_ret1 rfl (rv_tmp rfl) (fun w hh => ⟨(), rfl, hh.sel [] rfl⟩)
    ·refine JD_take (i := 8) hp13 rfl (by kernel_rfl) (by kernel_rfl) (by kernel_rfl) (wants_some rfl rfl rfl h18) rfl (ex_move rfl) ?_
     refine JD_take (i := 9) hp13 rfl (by kernel_rfl) (by kernel_rfl) (by kernel_rfl) (wants_some rfl rfl rfl h18) rfl (ex_move rfl) ?_
     refine JD_bnd fun y19 hy20 => ?_
     refine JD_sq (i := 10) (fs := fun q21 => [.pt q21 y19]) [] h1_15 rfl rfl (by kernel_rfl) (by kernel_rfl) (by kernel_rfl) (wants_some rfl rfl rfl h18) rfl (sq_index 3 Tryz.underlying47 ti_95 rfl rfl rfl hy20) (fun _ => rfl) (fun q21 h1_22 => ?_)
     refine JD_sq (i := 11) (fs := fun q23 => [.pt q23 y19.Bottom]) [] h1_22 rfl rfl (by kernel_rfl) (by kernel_rfl) (by kernel_rfl) (wants_some rfl rfl rfl h18) rfl (sq_field_pt 0 (GDomino.at_Bottom _) fi_95_1 rfl rfl rfl) (fun _ => rfl) (fun q23 h1_24 => ?_)
     refine JD_sq (i := 12) [] h1_24 rfl rfl (by kernel_rfl) (by kernel_rfl) (by kernel_rfl) (wants_some rfl rfl rfl h18) rfl (sq_load_pt_o 0 (opens_sl _) ti_27 rfl rfl) (fun _ => rfl) (fun v25 h1_26 => ?_)
     refine JD_bnd fun r27 hr28 => ?_
     refine JD_one (i := 13) (by kernel_rfl) ?_
     refine JO_call rfl (wants_some rfl rfl rfl h18) rfl Tryz.call96 rfl (Ca_of0 fun w hh => c_spec_l03Is _ w (fun _ hk => hk.elim) _ _ (hh.rd0 0 rfl) _ hr28) (fun _ => ?_)
     refine JD_take (i := 14) hp13 rfl (by kernel_rfl) (by kernel_rfl) (by kernel_rfl) (wants_some rfl rfl rfl h18) rfl (ex_not rfl) ?_
     refine JD_take (i := 15) hp13 rfl (by kernel_rfl) (by kernel_rfl) (by kernel_rfl) wn rfl (ex_pick_false rfl h18 rfl) ?_
     refine JD_take (i := 16) hp13 rfl (by kernel_rfl) (by kernel_rfl) (by kernel_rfl) wn rfl (ex_move rfl) ?_
     refine JD_cond (fun h29 => ?_) (fun h29 => ?_)
     ·refine JD_pass (i := 17) rfl (by kernel_rfl) (by kernel_rfl) (by kernel_rfl) rfl rfl h29 rfl ?_
      refine JD_pass (i := 18) rfl (by kernel_rfl) (by kernel_rfl) (by kernel_rfl) rfl rfl h29 rfl ?_
      refine JD_pass (i := 19) rfl (by kernel_rfl) (by kernel_rfl) (by kernel_rfl) rfl rfl h29 rfl ?_
      refine JD_pass (i := 20) rfl (by kernel_rfl) (by kernel_rfl) (by kernel_rfl) rfl rfl h29 rfl ?_
      refine JD_pass (i := 21) rfl (by kernel_rfl) (by kernel_rfl) (by kernel_rfl) rfl rfl h29 rfl ?_
      refine JD_pass (i := 22) rfl (by kernel_rfl) (by kernel_rfl) (by kernel_rfl) rfl rfl h29 rfl ?_
      refine JD_pass (i := 23) rfl (by kernel_rfl) (by kernel_rfl) (by kernel_rfl) rfl rfl h29 rfl ?_
      refine JD_pass (i := 24) rfl (by kernel_rfl) (by kernel_rfl) (by kernel_rfl) rfl rfl h29 rfl ?_
      refine JD_pass (i := 25) rfl (by kernel_rfl) (by kernel_rfl) (by kernel_rfl) rfl rfl h29 rfl ?_
      refine JD_pass (i := 26) rfl (by kernel_rfl) (by kernel_rfl) (by kernel_rfl) rfl rfl h29 rfl ?_
      refine JD_pass (i := 27) rfl (by kernel_rfl) (by kernel_rfl) (by kernel_rfl) rfl rfl h29 rfl ?_
      refine JD_pass (i := 28) rfl (by kernel_rfl) (by kernel_rfl) (by kernel_rfl) rfl rfl h29 rfl ?_
      refine JD_pass (i := 29) rfl (by kernel_rfl) (by kernel_rfl) (by kernel_rfl) rfl rfl h29 rfl ?_
      refine JD_pass (i := 30) rfl (by kernel_rfl) (by kernel_rfl) (by kernel_rfl) rfl rfl h29 rfl ?_
      refine JD_take (i := 31) hp13 rfl (by kernel_rfl) (by kernel_rfl) (by kernel_rfl) wn rfl (ex_pick_true rfl h29 rfl) ?_
      refine JD_done (by kernel_rfl) ?_
      refine N_then ?_
      refine J_if_true rfl rfl ?_
      refine J_sr ?_
      refine JA rfl rfl ?_
      refine JL_nt ?_
      refine J_ret ?_
      refine N_block_ret ?_
      refine N_then_ret ?_
      refine N_round_ret ?_
      refine N_then_ret ?_
      exact N_ret1 rfl (rv_tmp rfl) (fun w hh => ⟨(), rfl, hh.sel [] rfl⟩)
     ·refine JD_take (i := 17) hp13 rfl (by kernel_rfl) (by kernel_rfl) (by kernel_rfl) (wants_some rfl rfl rfl h29) rfl (ex_move rfl) ?_
      refine JD_take (i := 18) hp13 rfl (by kernel_rfl) (by kernel_rfl) (by kernel_rfl) (wants_some rfl rfl rfl h29) rfl (ex_move rfl) ?_
      refine JD_bnd fun y30 hy31 => ?_
      refine JD_sq (i := 19) (fs := fun q32 => [.pt q32 y30]) [] h1_26 rfl rfl (by kernel_rfl) (by kernel_rfl) (by kernel_rfl) (wants_some rfl rfl rfl h29) rfl (sq_index 6 Tryz.underlying47 ti_95 rfl rfl rfl hy31) (fun _ => rfl) (fun q32 h1_33 => ?_)
      refine JD_sq (i := 20) (fs := fun q34 => [.pt q34 y30.Top]) [] h1_33 rfl rfl (by kernel_rfl) (by kernel_rfl) (by kernel_rfl) (wants_some rfl rfl rfl h29) rfl (sq_field_pt 0 (GDomino.at_Top _) fi_95_0 rfl rfl rfl) (fun _ => rfl) (fun q34 h1_35 => ?_)
      refine JD_sq (i := 21) [] h1_35 rfl rfl (by kernel_rfl) (by kernel_rfl) (by kernel_rfl) (wants_some rfl rfl rfl h29) rfl (sq_load_pt_o 0 (opens_sl _) ti_27 rfl rfl) (fun _ => rfl) (fun v36 h1_37 => ?_)
      refine JD_take (i := 23) hp13 rfl (by kernel_rfl) (by kernel_rfl) (by kernel_rfl) (wants_some rfl rfl rfl h29) rfl (ex_move rfl) ?_
      refine JD_take (i := 24) hp13 rfl (by kernel_rfl) (by kernel_rfl) (by kernel_rfl) (wants_some rfl rfl rfl h29) rfl (ex_move rfl) ?_
      refine JD_bnd fun y38 hy39 => ?_
      refine JD_sq (i := 25) (fs := fun q40 => [.pt q40 y38]) [] h1_37 rfl rfl (by kernel_rfl) (by kernel_rfl) (by kernel_rfl) (wants_some rfl rfl rfl h29) rfl (sq_index 9 Tryz.underlying47 ti_95 rfl rfl rfl hy39) (fun _ => rfl) (fun q40 h1_41 => ?_)
      refine JD_sq (i := 26) (fs := fun q42 => [.pt q42 y38.Bottom]) [] h1_41 rfl rfl (by kernel_rfl) (by kernel_rfl) (by kernel_rfl) (wants_some rfl rfl rfl h29) rfl (sq_field_pt 0 (GDomino.at_Bottom _) fi_95_1 rfl rfl rfl) (fun _ => rfl) (fun q42 h1_43 => ?_)
      refine JD_sq (i := 27) [] h1_43 rfl rfl (by kernel_rfl) (by kernel_rfl) (by kernel_rfl) (wants_some rfl rfl rfl h29) rfl (sq_load_pt_o 0 (opens_sl _) ti_27 rfl rfl) (fun _ => rfl) (fun v44 h1_45 => ?_)
      refine JD_two (i := 22) (j := 28) (by kernel_rfl) ?_ ?_
      ·refine JO_q rfl (wants_some rfl rfl rfl h29) rfl (ex_len_rd 3 Tryz.underlying27 rfl rfl) ?_
       refine JD_one (i := 28) (by kernel_rfl) ?_
       refine JO_q rfl (wants_some rfl rfl rfl h29) rfl (ex_len_rd 0 Tryz.underlying27 rfl rfl) ?_
       refine JD_take (i := 29) hp13 rfl (by kernel_rfl) (by kernel_rfl) (by kernel_rfl) (wants_some rfl rfl rfl h29) rfl (ex_add rfl rfl) ?_
       refine JD_take (i := 30) hp13 rfl (by kernel_rfl) (by kernel_rfl) (by kernel_rfl) (wants_some rfl rfl rfl h29) rfl (ex_eql rfl rfl) ?_
       refine JD_take (i := 31) hp13 rfl (by kernel_rfl) (by kernel_rfl) (by kernel_rfl) wn rfl (ex_pick_false rfl h29 rfl) ?_
       refine JD_done (by kernel_rfl) ?_
       refine N_then ?_
       refine J_if rfl (fun h46 => ?_) (fun h46 => ?_)
       ·refine J_sr ?_
        refine JA rfl rfl ?_
        refine JL_nt ?_
        refine J_ret ?_
        refine N_block_ret ?_
        refine N_then_ret ?_
        refine N_round_ret ?_
        refine N_then_ret ?_
        exact N_ret1 rfl (rv_tmp rfl) (fun w hh => ⟨(), rfl, hh.sel [] rfl⟩)
       ·refine J_skip ?_
        refine N_block ?_
        refine N_then ?_
        refine J_region ?_
        refine JM rfl rfl ?_
        refine JL_q wn rfl (ex_add rfl rfl) ?_
        refine JA rfl rfl ?_
        refine JL_nil ?_
        exact N_next' () ⟨rfl, rfl, trivial⟩ [12] rfl rfl
      ·refine JO_q rfl (wants_some rfl rfl rfl h29) rfl (ex_len_rd 0 Tryz.underlying27 rfl rfl) ?_
       refine JD_one (i := 22) (by kernel_rfl) ?_
       refine JO_q rfl (wants_some rfl rfl rfl h29) rfl (ex_len_rd 3 Tryz.underlying27 rfl rfl) ?_
       refine JD_take (i := 29) hp13 rfl (by kernel_rfl) (by kernel_rfl) (by kernel_rfl) (wants_some rfl rfl rfl h29) rfl (ex_add rfl rfl) ?_
       refine JD_take (i := 30) hp13 rfl (by kernel_rfl) (by kernel_rfl) (by kernel_rfl) (wants_some rfl rfl rfl h29) rfl (ex_eql rfl rfl) ?_
       refine JD_take (i := 31) hp13 rfl (by kernel_rfl) (by kernel_rfl) (by kernel_rfl) wn rfl (ex_pick_false rfl h29 rfl) ?_
       refine JD_done (by kernel_rfl) ?_
       refine N_then ?_
       refine J_if rfl (fun h47 => ?_) (fun h47 => ?_)
       ·refine J_sr ?_
        refine JA rfl rfl ?_
        refine JL_nt ?_
        refine J_ret ?_
        refine N_block_ret ?_
        refine N_then_ret ?_
        refine N_round_ret ?_
        refine N_then_ret ?_
        exact N_ret1 rfl (rv_tmp rfl) (fun w hh => ⟨(), rfl, hh.sel [] rfl⟩)
       ·refine J_skip ?_
        refine N_block ?_
        refine N_then ?_
        refine J_region ?_
        refine JM rfl rfl ?_
        refine JL_q wn rfl (ex_add rfl rfl) ?_
        refine JA rfl rfl ?_
        refine JL_nil ?_
        exact N_next' () ⟨rfl, rfl, trivial⟩ [12] rfl rfl
   ·refine J_exit ?_
    refine N_then_exit ?_
    exact N_break' () ⟨rfl, rfl, trivial⟩ [0] rfl rfl
  ·refine N_then ?_
   refine J_sr ?_
   refine JA rfl rfl ?_
   refine JL_nt ?_
   refine J_ret ?_
   exact N_ret1 rfl (rv_tmp rfl) (fun w hh => ⟨(), rfl, hh.sel [] rfl⟩)
set_option maxHeartbeats 40000000 in
theorem c_spec_l32Rules (A : Nat → Prop) (w : World) (hA : ∀ k, A k → k < w.heap.size) (v0_ : Value) (p0 : (List GRewrite)) (hp0 : Rd A w v0_ p0) (v1_ : Value) (p1 : (List Int)) (hp1 : Rd A w v1_ p1) (v2_ : Value) (p2 : (List Int)) (hp2 : Rd A w v2_ p2) (r : (List GDomino) × Int) (hr : F_spec_l32Rules p0 p1 p2 = some r) :
  Con Tryz.prog 51 [v0_, v1_, v2_] A w (fun x_ : Value × List Nat => .tuple #[x_.1, .int .i64 r.2]) (fun x_ => [.od 95 x_.1 r.1 x_.2]) := by
 refine Con_of (v := fun (r : (List GDomino) × Int) (x_ : Value × List Nat) => .tuple #[x_.1, .int .i64 r.2]) (fs := fun r x_ => [.od 95 x_.1 r.1 x_.2]) Tryz.func51 rfl Tryz.ntmps51 rfl ((((SH.start hA).start_rd rfl hp0).start_rd rfl hp1).start_rd rfl hp2) rfl ?_ hr
 unfold F_spec_l32Rules
 refine J_sr ?_
 refine JA rfl rfl ?_
 refine JA rfl rfl ?_
 refine JL_nt ?_
 refine J_sr ?_
 refine JL_st wn rfl (st_buildSlice (vs := [.int .i64 6]) ([6] : List Int) Tryz.underlying27 ti_2 zi_2 rfl rfl rfl (fun w hh => ⟨(Rd.mk_int _ _ _), trivial⟩)) (fun b1 => ?_)
 refine JL_st wn rfl (st_buildSlice (vs := [.int .i64 6]) ([6] : List Int) Tryz.underlying27 ti_2 zi_2 rfl rfl rfl (fun w hh => ⟨(Rd.mk_int _ _ _), trivial⟩)) (fun b2 => ?_)
 refine JM rfl rfl ?_
 refine JL_bnd fun z3 hz4 => ?_
 refine JL_st wn rfl (st_append 0 Tryz.underlying27 ti_2 zi_2 rfl bi_2 rfl rfl rfl rfl (fun w hh => hh.src_rd 3 rfl) hz4) (fun v5 => ?_)
 refine JL_st wn rfl (st_buildSlice (vs := [.int .i64 6]) ([6] : List Int) Tryz.underlying27 ti_2 zi_2 rfl rfl rfl (fun w hh => ⟨(Rd.mk_int _ _ _), trivial⟩)) (fun b6 => ?_)
 refine JL_bnd fun z7 hz8 => ?_
 refine JL_st wn rfl (st_append 1 Tryz.underlying27 ti_2 zi_2 rfl bi_2 rfl rfl rfl rfl (fun w hh => hh.src_ow 0 rfl) hz8) (fun v9 => ?_)
 refine JL_q wn rfl (ex_build si_95 rfl (.cons fi_95_0 rfl rfl (.cons fi_95_1 rfl rfl .nil)) (fun w hh => ⟨(hh.cv_ow 2 rfl), (hh.cv_ow 1 rfl), trivial⟩)) ?_
 refine JL_ctx (fun w hh => hh.tokf 2 rfl rfl) ?_
 refine JL_ctx (fun w hh => hh.tokf 2 rfl rfl) ?_
 refine JL_st wn rfl (st_buildSlice_od (vs := [.agg #[(.slice (some ⟨b1, 0, none⟩) 1 1), v9]]) (B := ((((.slice (some ⟨b1, 0, none⟩) 1 1) : Value).ownBlock.toList ++ []) ++ (((v9 : Value).ownBlock.toList ++ []) ++ []))) ([(⟨([6] : List Int), z7⟩ : GDomino)] : List GDomino) [1, 0] Tryz.underlying47 ti_95 zi_95 rfl rfl rfl rfl rfl (fun w hh => (dwv_cons (GDomino.dw (hh.dw 1 rfl) (hh.dw 0 rfl)) dwv_nil))) (fun b10 => ?_)
 refine JA rfl rfl ?_
 refine JL_nt ?_
 refine J_seq ?_
 refine J_sr ?_
 refine JA rfl rfl ?_
 refine JL_nt ?_
 refine J_loop' (S := (List GDomino) × Int) (G := Value × List Nat) (F_spec_l32Rules_L1) (fun s11 g12 => [(0, v0_), (1, v1_), (2, v2_), (8, g12.1), (9, .int .i64 s11.2)]) (fun s11 g12 => [.rd v0_ p0, .rd v1_ p1, .rd v2_ p2, .od 95 g12.1 s11.1 g12.2]) (([(⟨([6] : List Int), z7⟩ : GDomino)] : List GDomino), 0) ((.slice (some ⟨b10, 0, none⟩) 1 1), ((((.slice (some ⟨b1, 0, none⟩) 1 1) : Value).ownBlock.toList ++ []) ++ (((v9 : Value).ownBlock.toList ++ []) ++ []))) ⟨rfl, rfl, rfl, rfl, rfl, trivial⟩ [8, 7, 6, 0] rfl rfl (fun s11 g12 => ?_) (fun s11 g12 => ?_)
 ·obtain ⟨g12_0, g12_1⟩ := g12
  unfold F_spec_l32Rules_L1
  refine J_seq ?_
  refine J_sr ?_
  refine JM rfl rfl ?_
  refine JL_q wn rfl (ex_leq rfl rfl) ?_
  refine JL_nt ?_
  refine J_if rfl (fun h13 => ?_) (fun h13 => ?_)
  ·refine J_skip ?_
   refine N_then ?_
   refine J_seq ?_
   refine J_block ?_
   refine J_region ?_
   refine JM rfl rfl ?_
   refine JM rfl rfl ?_
   refine JL_st wn rfl (st_buildSlice (vs := [.int .i64 s11.2]) ([s11.2] : List Int) Tryz.underlying27 ti_2 zi_2 rfl rfl rfl (fun w hh => ⟨(Rd.mk_int _ _ _), trivial⟩)) (fun b14 => ?_)
   refine JM rfl rfl ?_
   refine JL_st wn rfl (st_buildSlice (vs := [.int .i64 s11.2]) ([s11.2] : List Int) Tryz.underlying27 ti_2 zi_2 rfl rfl rfl (fun w hh => ⟨(Rd.mk_int _ _ _), trivial⟩)) (fun b15 => ?_)
   refine JL_q wn rfl (ex_build si_95 rfl (.cons fi_95_0 rfl rfl (.cons fi_95_1 rfl rfl .nil)) (fun w hh => ⟨(hh.cv_ow 1 rfl), (hh.cv_ow 0 rfl), trivial⟩)) ?_
   refine JL_ctx (fun w hh => hh.tokf 1 rfl rfl) ?_
   refine JL_ctx (fun w hh => hh.tokf 1 rfl rfl) ?_
   refine JL_st wn rfl (st_buildSlice_od (vs := [.agg #[(.slice (some ⟨b14, 0, none⟩) 1 1), (.slice (some ⟨b15, 0, none⟩) 1 1)]]) (B := ((((.slice (some ⟨b14, 0, none⟩) 1 1) : Value).ownBlock.toList ++ []) ++ ((((.slice (some ⟨b15, 0, none⟩) 1 1) : Value).ownBlock.toList ++ []) ++ []))) ([(⟨([s11.2] : List Int), ([s11.2] : List Int)⟩ : GDomino)] : List GDomino) [1, 0] Tryz.underlying47 ti_95 zi_95 rfl rfl rfl rfl rfl (fun w hh => (dwv_cons (GDomino.dw (hh.dw 1 rfl) (hh.dw 0 rfl)) dwv_nil))) (fun b16 => ?_)
   refine JL_bnd fun z17 hz18 => ?_
   refine JL_st wn rfl (st_append_od 8 0 Tryz.underlying47 ti_95 zi_95 rfl bi_95 rfl rfl rfl rfl rfl rfl hz18) (fun v19 => ?_)
   refine JA rfl rfl ?_
   refine JL_nil ?_
   refine N_block ?_
   refine N_then ?_
   refine J_region ?_
   refine JM rfl rfl ?_
   refine JL_q wn rfl (ex_add rfl rfl) ?_
   refine JA rfl rfl ?_
   refine JL_nil ?_
   exact N_next' (v19, (g12_1 ++ ((((.slice (some ⟨b14, 0, none⟩) 1 1) : Value).ownBlock.toList ++ []) ++ ((((.slice (some ⟨b15, 0, none⟩) 1 1) : Value).ownBlock.toList ++ []) ++ [])))) ⟨rfl, rfl, rfl, rfl, rfl, trivial⟩ [5, 6, 7, 8] rfl rfl
  ·refine J_exit ?_
   refine N_then_exit ?_
   exact N_break' (g12_0, g12_1) ⟨rfl, rfl, rfl, rfl, rfl, trivial⟩ [0, 1, 2, 3] rfl rfl
 ·obtain ⟨g12_0, g12_1⟩ := g12
  refine N_then ?_
  refine J_sr ?_
  refine JM rfl rfl ?_
  refine JL_st wn rfl (st_buildSlice (vs := [.int .i64 6]) ([6] : List Int) Tryz.underlying27 ti_2 zi_2 rfl rfl rfl (fun w hh => ⟨(Rd.mk_int _ _ _), trivial⟩)) (fun b20 => ?_)
  refine JL_st wn rfl (st_buildSlice (vs := [.int .i64 6]) ([6] : List Int) Tryz.underlying27 ti_2 zi_2 rfl rfl rfl (fun w hh => ⟨(Rd.mk_int _ _ _), trivial⟩)) (fun b21 => ?_)
  refine JL_q wn rfl (ex_build si_95 rfl (.cons fi_95_0 rfl rfl (.cons fi_95_1 rfl rfl .nil)) (fun w hh => ⟨(hh.cv_ow 1 rfl), (hh.cv_ow 0 rfl), trivial⟩)) ?_
  refine JL_ctx (fun w hh => hh.tokf 1 rfl rfl) ?_
  refine JL_ctx (fun w hh => hh.tokf 1 rfl rfl) ?_
  refine JL_st wn rfl (st_buildSlice_od (vs := [.agg #[(.slice (some ⟨b20, 0, none⟩) 1 1), (.slice (some ⟨b21, 0, none⟩) 1 1)]]) (B := ((((.slice (some ⟨b20, 0, none⟩) 1 1) : Value).ownBlock.toList ++ []) ++ ((((.slice (some ⟨b21, 0, none⟩) 1 1) : Value).ownBlock.toList ++ []) ++ []))) ([(⟨([6] : List Int), ([6] : List Int)⟩ : GDomino)] : List GDomino) [1, 0] Tryz.underlying47 ti_95 zi_95 rfl rfl rfl rfl rfl (fun w hh => (dwv_cons (GDomino.dw (hh.dw 1 rfl) (hh.dw 0 rfl)) dwv_nil))) (fun b22 => ?_)
  refine JL_bnd fun z23 hz24 => ?_
  refine JL_st wn rfl (st_append_od 8 0 Tryz.underlying47 ti_95 zi_95 rfl bi_95 rfl rfl rfl rfl rfl rfl hz24) (fun v25 => ?_)
  refine JA rfl rfl ?_
  refine JL_nt ?_
  refine J_seq ?_
  refine J_sr ?_
  refine JA rfl rfl ?_
  refine JL_nt ?_
  refine J_loop' (S := (List GDomino) × Int) (G := Value × List Nat) (F_spec_l32Rules_L2 p0) (fun s26 g27 => [(0, v0_), (1, v1_), (2, v2_), (8, g27.1), (10, .int .i64 s26.2)]) (fun s26 g27 => [.rd v0_ p0, .rd v1_ p1, .rd v2_ p2, .od 95 g27.1 s26.1 g27.2]) (z23, 0) (v25, (g12_1 ++ ((((.slice (some ⟨b20, 0, none⟩) 1 1) : Value).ownBlock.toList ++ []) ++ ((((.slice (some ⟨b21, 0, none⟩) 1 1) : Value).ownBlock.toList ++ []) ++ [])))) ⟨rfl, rfl, rfl, rfl, rfl, trivial⟩ [5, 6, 7, 8] rfl rfl (fun s26 g27 => ?_) (fun s26 g27 => ?_)
  ·obtain ⟨g27_0, g27_1⟩ := g27
   unfold F_spec_l32Rules_L2
   refine J_seq ?_
   refine J_sr ?_
   refine JM rfl rfl ?_
   refine JM rfl rfl ?_
   refine JL_q wn rfl (ex_len_rd 0 Tryz.underlying34 rfl rfl) ?_
   refine JL_q wn rfl (ex_lss rfl rfl) ?_
   refine JL_nt ?_
   refine J_if rfl (fun h28 => ?_) (fun h28 => ?_)
   ·refine J_skip ?_
    refine N_then ?_
    refine J_seq ?_
    refine J_block ?_
    refine J_draw [3] (by kernel_rfl) ?_
    refine JP_take (i := 0) [0, 1, 2] [3] rfl (by kernel_rfl) (by kernel_rfl) (by kernel_rfl) rfl rfl wn rfl (ex_move rfl) ?_
    refine JP_take (i := 1) [0, 1, 2] [3] rfl (by kernel_rfl) (by kernel_rfl) (by kernel_rfl) rfl rfl wn rfl (ex_move rfl) ?_
    refine JP_take (i := 2) [0, 1, 2] [3] rfl (by kernel_rfl) (by kernel_rfl) (by kernel_rfl) rfl rfl wn rfl (ex_move rfl) ?_
    refine JP_bnd fun y29 hy30 => ?_
    refine JP_sq (i := 3) [3] rfl (by kernel_rfl) (by kernel_rfl) (by kernel_rfl) rfl wn rfl (sq_index 0 Tryz.underlying34 ti_88 rfl rfl rfl hy30) (fun q31 => ?_)
    refine JP_sq (i := 4) [4] rfl (by kernel_rfl) (by kernel_rfl) (by kernel_rfl) rfl wn rfl (sq_field_pt 0 (GRewrite.at_From _) fi_88_0 rfl rfl rfl) (fun q32 => ?_)
    refine JP_sq (i := 5) [5] rfl (by kernel_rfl) (by kernel_rfl) (by kernel_rfl) rfl wn rfl (sq_load_pt_o 0 (opens_sl _) ti_27 rfl rfl) (fun v33 => ?_)
    refine JP_take (i := 7) [0, 1, 2, 3, 4, 5] [6] rfl (by kernel_rfl) (by kernel_rfl) (by kernel_rfl) rfl rfl wn rfl (ex_move rfl) ?_
    refine JP_take (i := 8) [0, 1, 2, 3, 4, 5] [6] rfl (by kernel_rfl) (by kernel_rfl) (by kernel_rfl) rfl rfl wn rfl (ex_move rfl) ?_
    refine JP_bnd fun y34 hy35 => ?_
    refine JP_sq (i := 9) [6] rfl (by kernel_rfl) (by kernel_rfl) (by kernel_rfl) rfl wn rfl (sq_index 3 Tryz.underlying34 ti_88 rfl rfl rfl hy35) (fun q36 => ?_)
    refine JP_sq (i := 10) [7] rfl (by kernel_rfl) (by kernel_rfl) (by kernel_rfl) rfl wn rfl (sq_field_pt 0 (GRewrite.at_To _) fi_88_1 rfl rfl rfl) (fun q37 => ?_)
    refine JP_sq (i := 11) [8] rfl (by kernel_rfl) (by kernel_rfl) (by kernel_rfl) rfl wn rfl (sq_load_pt_o 0 (opens_sl _) ti_27 rfl rfl) (fun v38 => ?_)
    refine JP_go [0, 1, 2, 3, 4, 5, 6, 7, 8] [9] rfl rfl rfl (fun w40 h1_41 hp39 => ?_)
    refine JD_bnd fun r42 hr43 => ?_
    refine JD_one (i := 6) (by kernel_rfl) ?_
    refine JO_call rfl wn rfl Tryz.call54 rfl (Ca_self (fun _ => rfl) fun w hh => c_spec_l00Own _ w (fun _ hk => hk.elim) _ _ (hh.rd0 3 rfl) _ hr43) (fun x44 => ?_)
    refine JD_bnd fun r45 hr46 => ?_
    refine JD_one (i := 12) (by kernel_rfl) ?_
    refine JO_call rfl wn rfl Tryz.call54 rfl (Ca_self (fun _ => rfl) fun w hh => c_spec_l00Own _ w (fun _ hk => hk.elim) _ _ (hh.rd0 1 rfl) _ hr46) (fun x47 => ?_)
    refine JD_one (i := 13) (by kernel_rfl) ?_
    refine JO_q rfl wn rfl (ex_build si_95 rfl (.cons fi_95_0 rfl rfl (.cons fi_95_1 rfl rfl .nil)) (fun w hh => ⟨(hh.cv_ow 1 rfl), (hh.cv_ow 0 rfl), trivial⟩)) ?_
    refine JD_one (i := 14) (by kernel_rfl) ?_
    refine JO_ctx (fun w hh => hh.tokf 1 rfl rfl) (tokf_owns (i := 1) rfl) ?_
    refine JO_ctx (fun w hh => hh.tokf 1 rfl rfl) (tokf_owns (i := 1) rfl) ?_
    refine JO_st rfl wn rfl (st_buildSlice_od (vs := [.agg #[x44, x47]]) (B := (((x44 : Value).ownBlock.toList ++ []) ++ (((x47 : Value).ownBlock.toList ++ []) ++ []))) ([(⟨r42, r45⟩ : GDomino)] : List GDomino) [1, 0] Tryz.underlying47 ti_95 zi_95 rfl rfl rfl rfl rfl (fun w hh => (dwv_cons (GDomino.dw (hh.dw 1 rfl) (hh.dw 0 rfl)) dwv_nil))) (fun _ hk => nomatch hk) (fun b48 => ?_)
    refine JD_bnd fun z49 hz50 => ?_
    refine JD_one (i := 15) (by kernel_rfl) ?_
    refine JO_st rfl wn rfl (st_append_od 14 0 Tryz.underlying47 ti_95 zi_95 rfl bi_95 rfl rfl rfl rfl rfl rfl hz50) (sub_od 0 rfl) (fun v51 => ?_)
    refine JD_take (i := 16) hp39 rfl (by kernel_rfl) (by kernel_rfl) (by kernel_rfl) wn rfl (ex_assign rfl) ?_
    refine JD_done (by kernel_rfl) ?_
    refine N_block ?_
    refine N_then ?_
    refine J_region ?_
    refine JM rfl rfl ?_
    refine JL_q wn rfl (ex_add rfl rfl) ?_
    refine JA rfl rfl ?_
    refine JL_nil ?_
    exact N_next' (v51, (g27_1 ++ (((x44 : Value).ownBlock.toList ++ []) ++ (((x47 : Value).ownBlock.toList ++ []) ++ [])))) ⟨rfl, rfl, rfl, rfl, rfl, trivial⟩ [11, 12, 13, 14] rfl rfl
   ·refine J_exit ?_
    refine N_then_exit ?_
    exact N_break' (g27_0, g27_1) ⟨rfl, rfl, rfl, rfl, rfl, trivial⟩ [0, 1, 2, 3] rfl rfl
  ·obtain ⟨g27_0, g27_1⟩ := g27
   refine N_then ?_
   refine J_seq ?_
   refine J_cut' (S' := Unit) (G' := Unit) (fun _ _ => [(2, v2_), (8, g27_0)]) (fun _ _ => [.rd v2_ p2, .od 95 g27_0 s26.1 g27_1]) ?_ (fun s52 g53 => ?_)
   ·refine J_sr ?_
    refine JM rfl rfl ?_
    refine JL_bnd fun z54 hz55 => ?_
    refine JL_st wn rfl (st_od 3 rfl (st_slice_bor 3 Tryz.underlying47 ti_95 rfl rfl rfl rfl hz55) (fun _ => rfl)) (fun v56 => ?_)
    refine JL_bnd fun r57 hr58 => ?_
    refine JL_call wn rfl Tryz.call97 rfl (Ca_of0 fun w hh => c_spec_l32Least _ w (fun _ hk => hk.elim) _ _ ((hh.pr 0 rfl).2 _ _ (hh.od0 4 rfl)) _ _ hr58) (fun _ => ?_)
    refine JL_q wn rfl (ex_not rfl) ?_
    refine JM rfl rfl ?_
    refine JL_cond (fun h59 => ?_) (fun h59 => ?_)
    ·refine JL_passed rfl rfl rfl h59 ?_
     refine JL_passed rfl rfl rfl h59 ?_
     refine JL_passed rfl rfl rfl h59 ?_
     refine JL_passed rfl rfl rfl h59 ?_
     refine JL_passed rfl rfl rfl h59 ?_
     refine JL_q wn rfl (ex_pick_true rfl h59 rfl) ?_
     refine JM rfl rfl ?_
     refine JL_passed rfl rfl rfl rfl ?_
     refine JL_passed rfl rfl rfl rfl ?_
     refine JL_passed rfl rfl rfl rfl ?_
     refine JL_passed rfl rfl rfl rfl ?_
     refine JL_passed rfl rfl rfl rfl ?_
     refine JL_q wn rfl (ex_pick_true rfl rfl rfl) ?_
     refine JL_nt ?_
     refine J_if_true rfl rfl ?_
     refine J_sr ?_
     refine JA rfl rfl ?_
     refine JA rfl rfl ?_
     refine JL_nt ?_
     refine J_ret ?_
     refine N_mid_ret ?_
     refine N_then_ret ?_
     refine N_ctx (fun w hh => SH.od_nil (α := GDomino) 95 hh) ?_
     exact N_ret2 rfl (rv_tmp rfl) (rv_tmp rfl) (fun w hh => ⟨((.slice none 0 0 : Value), ([] : List Nat)), rfl, hh.sel [0] rfl⟩)
    ·refine JL_q (wants_some rfl rfl rfl h59) rfl (ex_move rfl) ?_
     refine JL_q (wants_some rfl rfl rfl h59) rfl (ex_move rfl) ?_
     refine JL_q (wants_some rfl rfl rfl h59) rfl (ex_len_rd 2 Tryz.underlying27 rfl rfl) ?_
     refine JL_bnd fun r60 hr61 => ?_
     refine JL_call (wants_some rfl rfl rfl h59) rfl Tryz.call98 rfl (Ca_of0 fun w hh => c_spec_l06Row _ w (fun _ hk => hk.elim) _ _ (hh.rd0 2 rfl) _ _ _ _ hr61) (fun _ => ?_)
     refine JL_q (wants_some rfl rfl rfl h59) rfl (ex_not rfl) ?_
     refine JL_q wn rfl (ex_pick_false rfl h59 rfl) ?_
     refine JM rfl rfl ?_
     refine JL_cond (fun h62 => ?_) (fun h62 => ?_)
     ·refine JL_passed rfl rfl rfl h62 ?_
      refine JL_passed rfl rfl rfl h62 ?_
      refine JL_passed rfl rfl rfl h62 ?_
      refine JL_passed rfl rfl rfl h62 ?_
      refine JL_passed rfl rfl rfl h62 ?_
      refine JL_q wn rfl (ex_pick_true rfl h62 rfl) ?_
      refine JL_nt ?_
      refine J_if_true rfl rfl ?_
      refine J_sr ?_
      refine JA rfl rfl ?_
      refine JA rfl rfl ?_
      refine JL_nt ?_
      refine J_ret ?_
      refine N_mid_ret ?_
      refine N_then_ret ?_
      refine N_ctx (fun w hh => SH.od_nil (α := GDomino) 95 hh) ?_
      exact N_ret2 rfl (rv_tmp rfl) (rv_tmp rfl) (fun w hh => ⟨((.slice none 0 0 : Value), ([] : List Nat)), rfl, hh.sel [0] rfl⟩)
     ·refine JL_q (wants_some rfl rfl rfl h62) rfl (ex_move rfl) ?_
      refine JL_q (wants_some rfl rfl rfl h62) rfl (ex_move rfl) ?_
      refine JL_q (wants_some rfl rfl rfl h62) rfl (ex_len_rd 3 Tryz.underlying27 rfl rfl) ?_
      refine JL_bnd fun r63 hr64 => ?_
      refine JL_call (wants_some rfl rfl rfl h62) rfl Tryz.call98 rfl (Ca_of0 fun w hh => c_spec_l06Row _ w (fun _ hk => hk.elim) _ _ (hh.rd0 3 rfl) _ _ _ _ hr64) (fun _ => ?_)
      refine JL_q (wants_some rfl rfl rfl h62) rfl (ex_not rfl) ?_
      refine JL_q wn rfl (ex_pick_false rfl h62 rfl) ?_
      refine JL_nt ?_
      refine J_if rfl (fun h65 => ?_) (fun h65 => ?_)
      ·refine J_sr ?_
       refine JA rfl rfl ?_
       refine JA rfl rfl ?_
       refine JL_nt ?_
       refine J_ret ?_
       refine N_mid_ret ?_
       refine N_then_ret ?_
       refine N_ctx (fun w hh => SH.od_nil (α := GDomino) 95 hh) ?_
       exact N_ret2 rfl (rv_tmp rfl) (rv_tmp rfl) (fun w hh => ⟨((.slice none 0 0 : Value), ([] : List Nat)), rfl, hh.sel [0] rfl⟩)
      ·refine J_skip ?_
       exact N_meet' () ⟨rfl, rfl, trivial⟩ [3, 4] rfl rfl
   ·refine N_then ?_
    refine J_sr ?_
    refine JM rfl rfl ?_
    refine JM rfl rfl ?_
    refine JL_bnd fun r66 hr67 => ?_
    refine JL_call wn rfl Tryz.call54 rfl (Ca_self (fun _ => rfl) fun w hh => c_spec_l00Own _ w (fun _ hk => hk.elim) _ _ (hh.rd0 0 rfl) _ hr67) (fun x68 => ?_)
    refine JL_st wn rfl (st_buildSlice (vs := [.int .i64 6, .int .i64 7]) ([6, 7] : List Int) Tryz.underlying27 ti_2 zi_2 rfl rfl rfl (fun w hh => ⟨(Rd.mk_int _ _ _), (Rd.mk_int _ _ _), trivial⟩)) (fun b69 => ?_)
    refine JL_bnd fun z70 hz71 => ?_
    refine JL_st wn rfl (st_append 1 Tryz.underlying27 ti_2 zi_2 rfl bi_2 rfl rfl rfl rfl (fun w hh => hh.src_ow 0 rfl) hz71) (fun v72 => ?_)
    refine JL_st wn rfl (st_buildSlice (vs := [.int .i64 7]) ([7] : List Int) Tryz.underlying27 ti_2 zi_2 rfl rfl rfl (fun w hh => ⟨(Rd.mk_int _ _ _), trivial⟩)) (fun b73 => ?_)
    refine JL_q wn rfl (ex_build si_95 rfl (.cons fi_95_0 rfl rfl (.cons fi_95_1 rfl rfl .nil)) (fun w hh => ⟨(hh.cv_ow 2 rfl), (hh.cv_ow 0 rfl), trivial⟩)) ?_
    refine JL_ctx (fun w hh => hh.tokf 2 rfl rfl) ?_
    refine JL_ctx (fun w hh => hh.tokf 1 rfl rfl) ?_
    refine JL_st wn rfl (st_buildSlice_od (vs := [.agg #[v72, (.slice (some ⟨b73, 0, none⟩) 1 1)]]) (B := (((v72 : Value).ownBlock.toList ++ []) ++ ((((.slice (some ⟨b73, 0, none⟩) 1 1) : Value).ownBlock.toList ++ []) ++ []))) ([(⟨z70, ([7] : List Int)⟩ : GDomino)] : List GDomino) [1, 0] Tryz.underlying47 ti_95 zi_95 rfl rfl rfl rfl rfl (fun w hh => (dwv_cons (GDomino.dw (hh.dw 1 rfl) (hh.dw 0 rfl)) dwv_nil))) (fun b74 => ?_)
    refine JL_bnd fun z75 hz76 => ?_
    refine JL_st wn rfl (st_append_od 7 0 Tryz.underlying47 ti_95 zi_95 rfl bi_95 rfl rfl rfl rfl rfl rfl hz76) (fun v77 => ?_)
    refine JA rfl rfl ?_
    refine JL_nt ?_
    refine J_seq ?_
    refine J_sr ?_
    refine JM rfl rfl ?_
    refine JL_bnd fun r78 hr79 => ?_
    refine JL_call wn rfl Tryz.call99 rfl (Ca_of0 fun w hh => c_spec_l32Is _ w (fun _ hk => hk.elim) _ _ (hh.od0 7 rfl) _ hr79) (fun _ => ?_)
    refine JL_q wn rfl (ex_not rfl) ?_
    refine JL_nt ?_
    refine J_if rfl (fun h80 => ?_) (fun h80 => ?_)
    ·refine J_sr ?_
     refine JA rfl rfl ?_
     refine JA rfl rfl ?_
     refine JL_nt ?_
     refine J_ret ?_
     refine N_then_ret ?_
     refine N_ctx (fun w hh => SH.od_nil (α := GDomino) 95 hh) ?_
     exact N_ret2 rfl (rv_tmp rfl) (rv_tmp rfl) (fun w hh => ⟨((.slice none 0 0 : Value), ([] : List Nat)), rfl, hh.sel [0] rfl⟩)
    ·refine J_skip ?_
     refine N_then ?_
     refine J_sr ?_
     refine JM rfl rfl ?_
     refine JA rfl rfl ?_
     refine JA rfl rfl ?_
     refine JL_nt ?_
     refine J_ret ?_
     exact N_ret2 rfl (rv_tmp rfl) (rv_tmp rfl) (fun w hh => ⟨(v77, (g27_1 ++ (((v72 : Value).ownBlock.toList ++ []) ++ ((((.slice (some ⟨b73, 0, none⟩) 1 1) : Value).ownBlock.toList ++ []) ++ [])))), rfl, hh.sel [7] rfl⟩)
set_option maxHeartbeats 40000000 in
theorem c_spec_l00Same (A : Nat → Prop) (w : World) (hA : ∀ k, A k → k < w.heap.size) (v0_ : Value) (p0 : (List Int)) (hp0 : Rd A w v0_ p0) (v1_ : Value) (p1 : (List Int)) (hp1 : Rd A w v1_ p1) (r : Bool) (hr : F_spec_l00Same p0 p1 = some r) :
  Con Tryz.prog 53 [v0_, v1_] A w (fun x_ : Unit => .bool r) (fun x_ => []) := by
 refine Con_of (v := fun (r : Bool) (x_ : Unit) => .bool r) (fs := fun r x_ => []) Tryz.func53 rfl Tryz.ntmps53 rfl (((SH.start hA).start_rd rfl hp0).start_rd rfl hp1) rfl ?_ hr
 unfold F_spec_l00Same
 refine J_sr ?_
 refine JA rfl rfl ?_
 refine JL_nt ?_
 refine J_seq ?_
 refine J_sr ?_
 refine JM rfl rfl ?_
 refine JL_q wn rfl (ex_len_rd 1 Tryz.underlying27 rfl rfl) ?_
 refine JM rfl rfl ?_
 refine JL_q wn rfl (ex_len_rd 0 Tryz.underlying27 rfl rfl) ?_
 refine JL_q wn rfl (ex_neq rfl rfl) ?_
 refine JL_nt ?_
 refine J_if rfl (fun h1 => ?_) (fun h1 => ?_)
 ·refine J_sr ?_
  refine JA rfl rfl ?_
  refine JL_nt ?_
  refine J_ret ?_
  refine N_then_ret ?_
  exact N_ret1 rfl (rv_tmp rfl) (fun w hh => ⟨(), rfl, hh.sel [] rfl⟩)
 ·refine J_skip ?_
  refine N_then ?_
  refine J_seq ?_
  refine J_sr ?_
  refine JA rfl rfl ?_
  refine JL_nt ?_
  refine J_loop' (S := Int) (G := Unit) (F_spec_l00Same_L1 p0 p1) (fun s2 _ => [(0, v0_), (1, v1_), (5, .int .i64 s2)]) (fun s2 _ => [.rd v0_ p0, .rd v1_ p1]) 0 () ⟨rfl, rfl, rfl, trivial⟩ [1, 0] rfl rfl (fun s2 g3 => ?_) (fun s2 g3 => ?_)
  ·unfold F_spec_l00Same_L1
   refine J_seq ?_
   refine J_sr ?_
   refine JM rfl rfl ?_
   refine JM rfl rfl ?_
   refine JL_q wn rfl (ex_len_rd 0 Tryz.underlying27 rfl rfl) ?_
   refine JL_q wn rfl (ex_lss rfl rfl) ?_
   refine JL_nt ?_
   refine J_if rfl (fun h4 => ?_) (fun h4 => ?_)
   ·refine J_skip ?_
    refine N_then ?_
    refine J_seq ?_
    refine J_block ?_
    refine J_seq ?_
    refine J_draw [] (by kernel_rfl) ?_
    refine JP_take (i := 0) [0, 1] [] rfl (by kernel_rfl) (by kernel_rfl) (by kernel_rfl) rfl rfl wn rfl (ex_move rfl) ?_
    refine JP_take (i := 1) [0, 1] [] rfl (by kernel_rfl) (by kernel_rfl) (by kernel_rfl) rfl rfl wn rfl (ex_move rfl) ?_
    refine JP_bnd fun y5 hy6 => ?_
    refine JP_sq (i := 2) [] rfl (by kernel_rfl) (by kernel_rfl) (by kernel_rfl) rfl wn rfl (sq_index 0 Tryz.underlying27 ti_2 rfl rfl rfl hy6) (fun q7 => ?_)
    refine JP_sq (i := 3) [] rfl (by kernel_rfl) (by kernel_rfl) (by kernel_rfl) rfl wn rfl (sq_load_pt_o 0 (opens_int _) ti_2 rfl rfl) (fun _ => ?_)
    refine JP_take (i := 4) [0, 1, 2] [] rfl (by kernel_rfl) (by kernel_rfl) (by kernel_rfl) rfl rfl wn rfl (ex_move rfl) ?_
    refine JP_take (i := 5) [0, 1, 2] [] rfl (by kernel_rfl) (by kernel_rfl) (by kernel_rfl) rfl rfl wn rfl (ex_move rfl) ?_
    refine JP_bnd fun y9 hy10 => ?_
    refine JP_sq (i := 6) [] rfl (by kernel_rfl) (by kernel_rfl) (by kernel_rfl) rfl wn rfl (sq_index 2 Tryz.underlying27 ti_2 rfl rfl rfl hy10) (fun q11 => ?_)
    refine JP_sq (i := 7) [] rfl (by kernel_rfl) (by kernel_rfl) (by kernel_rfl) rfl wn rfl (sq_load_pt_o 0 (opens_int _) ti_2 rfl rfl) (fun _ => ?_)
    refine JP_take (i := 8) [0, 1, 2, 3] [] rfl (by kernel_rfl) (by kernel_rfl) (by kernel_rfl) rfl rfl wn rfl (ex_neq rfl rfl) ?_
    refine JP_go [] [] rfl rfl rfl (fun _ _ _ => ?_)
    refine JD_done (by kernel_rfl) ?_
    refine N_then ?_
    refine J_if rfl (fun h13 => ?_) (fun h13 => ?_)
    ·refine J_sr ?_
     refine JA rfl rfl ?_
     refine JL_nt ?_
     refine J_ret ?_
     refine N_block_ret ?_
     refine N_then_ret ?_
     refine N_round_ret ?_
     refine N_then_ret ?_
     exact N_ret1 rfl (rv_tmp rfl) (fun w hh => ⟨(), rfl, hh.sel [] rfl⟩)
    ·refine J_skip ?_
     refine N_block ?_
     refine N_then ?_
     refine J_region ?_
     refine JM rfl rfl ?_
     refine JL_q wn rfl (ex_add rfl rfl) ?_
     refine JA rfl rfl ?_
     refine JL_nil ?_
     exact N_next' () ⟨rfl, rfl, rfl, trivial⟩ [2, 3] rfl rfl
   ·refine J_exit ?_
    refine N_then_exit ?_
    exact N_break' () ⟨rfl, rfl, rfl, trivial⟩ [0, 1] rfl rfl
  ·refine N_then ?_
   refine J_sr ?_
   refine JA rfl rfl ?_
   refine JL_nt ?_
   refine J_ret ?_
   exact N_ret1 rfl (rv_tmp rfl) (fun w hh => ⟨(), rfl, hh.sel [] rfl⟩)
set_option maxHeartbeats 40000000 in
theorem c_spec_l03At (A : Nat → Prop) (w : World) (hA : ∀ k, A k → k < w.heap.size) (v0_ : Value) (p0 : (List Int)) (hp0 : Rd A w v0_ p0) (p1 : Int) (v2_ : Value) (p2 : (List Int)) (hp2 : Rd A w v2_ p2) (r : Bool) (hr : F_spec_l03At p0 p1 p2 = some r) :
  Con Tryz.prog 127 [v0_, .int .i64 p1, v2_] A w (fun x_ : Unit => .bool r) (fun x_ => []) := by
 refine Con_of (v := fun (r : Bool) (x_ : Unit) => .bool r) (fs := fun r x_ => []) Tryz.func127 rfl Tryz.ntmps127 rfl (((SH.start hA).start_rd rfl hp0).start_rd rfl hp2) rfl ?_ hr
 unfold F_spec_l03At
 refine J_sr ?_
 refine JA rfl rfl ?_
 refine JL_nt ?_
 refine J_sr ?_
 refine JM rfl rfl ?_
 refine JM rfl rfl ?_
 refine JL_q wn rfl (ex_len_rd 0 Tryz.underlying27 rfl rfl) ?_
 refine JL_q wn rfl (ex_add rfl rfl) ?_
 refine JM rfl rfl ?_
 refine JL_q wn rfl (ex_len_rd 1 Tryz.underlying27 rfl rfl) ?_
 refine JL_q wn rfl (ex_leq rfl rfl) ?_
 refine JM rfl rfl ?_
 refine JL_cond (fun h1 => ?_) (fun h1 => ?_)
 ·refine JL_q (wants_some rfl rfl rfl h1) rfl (ex_move rfl) ?_
  refine JL_q (wants_some rfl rfl rfl h1) rfl (ex_move rfl) ?_
  refine JL_q (wants_some rfl rfl rfl h1) rfl (ex_move rfl) ?_
  refine JL_q (wants_some rfl rfl rfl h1) rfl (ex_move rfl) ?_
  refine JL_q (wants_some rfl rfl rfl h1) rfl (ex_len_rd 0 Tryz.underlying27 rfl rfl) ?_
  refine JL_q (wants_some rfl rfl rfl h1) rfl (ex_add rfl rfl) ?_
  refine JL_bnd fun z2 hz3 => ?_
  refine JL_st (wants_some rfl rfl rfl h1) rfl (st_slice 1 Tryz.underlying27 ti_2 rfl rfl rfl rfl hz3) (fun v4 => ?_)
  refine JL_q (wants_some rfl rfl rfl h1) rfl (ex_move rfl) ?_
  refine JL_bnd fun r5 hr6 => ?_
  refine JL_call (wants_some rfl rfl rfl h1) rfl Tryz.call53 rfl (Ca_of0 fun w hh => c_spec_l00Same _ w (fun _ hk => hk.elim) _ _ (hh.rd0 0 rfl) _ _ (hh.rd0 1 rfl) _ hr6) (fun _ => ?_)
  refine JL_q wn rfl (ex_pick_true rfl h1 rfl) ?_
  refine JA rfl rfl ?_
  refine JL_nt ?_
  refine J_ret ?_
  exact N_ret1 rfl (rv_tmp rfl) (fun w hh => ⟨(), rfl, hh.sel [] rfl⟩)
 ·refine JL_passed rfl rfl rfl h1 ?_
  refine JL_passed rfl rfl rfl h1 ?_
  refine JL_passed rfl rfl rfl h1 ?_
  refine JL_passed rfl rfl rfl h1 ?_
  refine JL_passed rfl rfl rfl h1 ?_
  refine JL_passed rfl rfl rfl h1 ?_
  refine JL_passed rfl rfl rfl h1 ?_
  refine JL_passed rfl rfl rfl h1 ?_
  refine JL_passed rfl rfl rfl h1 ?_
  refine JL_q wn rfl (ex_pick_false rfl h1 rfl) ?_
  refine JA rfl rfl ?_
  refine JL_nt ?_
  refine J_ret ?_
  exact N_ret1 rfl (rv_tmp rfl) (fun w hh => ⟨(), rfl, hh.sel [] rfl⟩)
set_option maxHeartbeats 40000000 in
theorem c_spec_l03Put (A : Nat → Prop) (w : World) (hA : ∀ k, A k → k < w.heap.size) (v0_ : Value) (p0 : (List Int)) (hp0 : Rd A w v0_ p0) (p1 : Int) (p2 : Int) (v3_ : Value) (p3 : (List Int)) (hp3 : Rd A w v3_ p3) (r : (List Int)) (hr : F_spec_l03Put p0 p1 p2 p3 = some r) :
  Con Tryz.prog 56 [v0_, .int .i64 p1, .int .i64 p2, v3_] A w (fun x_ : Value => x_) (fun x_ => [.ow 2 x_ r]) := by
 refine Con_of (v := fun (r : (List Int)) (x_ : Value) => x_) (fs := fun r x_ => [.ow 2 x_ r]) Tryz.func56 rfl Tryz.ntmps56 rfl (((SH.start hA).start_rd rfl hp0).start_rd rfl hp3) rfl ?_ hr
 unfold F_spec_l03Put
 refine J_sr ?_
 refine JA rfl rfl ?_
 refine JL_nt ?_
 refine J_sr ?_
 refine JM rfl rfl ?_
 refine JM rfl rfl ?_
 refine JL_bnd fun z1 hz2 => ?_
 refine JL_st wn rfl (st_slice 1 Tryz.underlying27 ti_2 rfl rfl rfl rfl hz2) (fun v3 => ?_)
 refine JL_bnd fun r4 hr5 => ?_
 refine JL_call wn rfl Tryz.call54 rfl (Ca_self (fun _ => rfl) fun w hh => c_spec_l00Own _ w (fun _ hk => hk.elim) _ _ (hh.rd0 0 rfl) _ hr5) (fun x6 => ?_)
 refine JA rfl rfl ?_
 refine JL_nt ?_
 refine J_sr ?_
 refine JM rfl rfl ?_
 refine JM rfl rfl ?_
 refine JL_bnd fun z7 hz8 => ?_
 refine JL_st wn rfl (st_append 0 Tryz.underlying27 ti_2 zi_2 rfl bi_2 rfl rfl rfl rfl (fun w hh => hh.src_rd 2 rfl) hz8) (fun v9 => ?_)
 refine JA rfl rfl ?_
 refine JL_nt ?_
 refine J_sr ?_
 refine JM rfl rfl ?_
 refine JM rfl rfl ?_
 refine JM rfl rfl ?_
 refine JM rfl rfl ?_
 refine JL_q wn rfl (ex_add rfl rfl) ?_
 refine JL_bnd fun z10 hz11 => ?_
 refine JL_st wn rfl (st_slice 3 Tryz.underlying27 ti_2 rfl rfl rfl rfl hz11) (fun v12 => ?_)
 refine JL_bnd fun z13 hz14 => ?_
 refine JL_st wn rfl (st_append 1 Tryz.underlying27 ti_2 zi_2 rfl bi_2 rfl rfl rfl rfl (fun w hh => hh.src_rd 0 rfl) hz14) (fun v15 => ?_)
 refine JA rfl rfl ?_
 refine JL_nt ?_
 refine J_ret ?_
 exact N_ret1 rfl (rv_tmp rfl) (fun w hh => ⟨v15, rfl, hh.sel [1] rfl⟩)
set_option maxHeartbeats 40000000 in
theorem c_spec_l10Apply (A : Nat → Prop) (w : World) (hA : ∀ k, A k → k < w.heap.size) (v0_ : Value) (p0 : (List GRewrite)) (hp0 : Rd A w v0_ p0) (v1_ : Value) (p1 : (List Int)) (hp1 : Rd A w v1_ p1) (p2 : Int) (p3 : Int) (r : (List Int) × Int) (hr : F_spec_l10Apply p0 p1 p2 p3 = some r) :
  Con Tryz.prog 119 [v0_, v1_, .int .i64 p2, .int .i64 p3] A w (fun x_ : Value => .tuple #[x_, .int .i64 r.2]) (fun x_ => [.ow 2 x_ r.1]) := by
 refine Con_of (v := fun (r : (List Int) × Int) (x_ : Value) => .tuple #[x_, .int .i64 r.2]) (fs := fun r x_ => [.ow 2 x_ r.1]) Tryz.func119 rfl Tryz.ntmps119 rfl (((SH.start hA).start_rd rfl hp0).start_rd rfl hp1) rfl ?_ hr
 unfold F_spec_l10Apply
 refine J_sr ?_
 refine JA rfl rfl ?_
 refine JA rfl rfl ?_
 refine JL_nt ?_
 refine J_sr ?_
 refine JM rfl rfl ?_
 refine JM rfl rfl ?_
 refine JL_bnd fun y1 hy2 => ?_
 refine JL_st wn rfl (st_index 1 Tryz.underlying34 ti_88 rfl rfl rfl hy2) (fun q3 => ?_)
 refine JA rfl rfl ?_
 refine JL_nt ?_
 refine J_seq ?_
 refine J_sr ?_
 refine JM rfl rfl ?_
 refine JM rfl rfl ?_
 refine JM rfl rfl ?_
 refine JL_q wn rfl (ex_nilCheck_pt 0 rfl rfl) ?_
 refine JL_st wn rfl (st_field_pt 0 (GRewrite.at_From _) fi_88_0 rfl rfl rfl) (fun q4 => ?_)
 refine JL_st wn rfl (st_load_pt_o 0 (opens_sl _) ti_27 rfl rfl) (fun v5 => ?_)
 refine JL_bnd fun r6 hr7 => ?_
 refine JL_call wn rfl Tryz.call127 rfl (Ca_of0 fun w hh => c_spec_l03At _ w (fun _ hk => hk.elim) _ _ (hh.rd0 3 rfl) _ _ _ (hh.rd0 0 rfl) _ hr7) (fun _ => ?_)
 refine JL_q wn rfl (ex_not rfl) ?_
 refine JL_nt ?_
 refine J_if rfl (fun h8 => ?_) (fun h8 => ?_)
 ·refine J_sr ?_
  refine JA rfl rfl ?_
  refine JA rfl rfl ?_
  refine JL_nt ?_
  refine J_ret ?_
  refine N_then_ret ?_
  refine N_ctx (fun w hh => SH.ow_nil (α := Int) 2 hh) ?_
  exact N_ret2 rfl (rv_tmp rfl) (rv_tmp rfl) (fun w hh => ⟨(.slice none 0 0 : Value), rfl, hh.sel [0] rfl⟩)
 ·refine J_skip ?_
  refine N_then ?_
  refine J_seq ?_
  refine J_seq ?_
  refine J_draw [] (by kernel_rfl) ?_
  refine JP_take (i := 0) [0, 1, 2, 3, 4] [] rfl (by kernel_rfl) (by kernel_rfl) (by kernel_rfl) rfl rfl wn rfl (ex_move rfl) ?_
  refine JP_take (i := 1) [0, 1, 2, 3, 4] [] rfl (by kernel_rfl) (by kernel_rfl) (by kernel_rfl) rfl rfl wn rfl (ex_len_rd 3 Tryz.underlying27 rfl rfl) ?_
  refine JP_take (i := 2) [0, 1, 2, 3, 4] [] rfl (by kernel_rfl) (by kernel_rfl) (by kernel_rfl) rfl rfl wn rfl (ex_move rfl) ?_
  refine JP_take (i := 3) [0, 1, 2, 3, 4] [] rfl (by kernel_rfl) (by kernel_rfl) (by kernel_rfl) rfl rfl wn rfl (ex_nilCheck_pt 2 rfl rfl) ?_
  refine JP_sq (i := 4) [] rfl (by kernel_rfl) (by kernel_rfl) (by kernel_rfl) rfl wn rfl (sq_field_pt 2 (GRewrite.at_From _) fi_88_0 rfl rfl rfl) (fun q9 => ?_)
  refine JP_sq (i := 5) [] rfl (by kernel_rfl) (by kernel_rfl) (by kernel_rfl) rfl wn rfl (sq_load_pt_o 0 (opens_sl _) ti_27 rfl rfl) (fun v10 => ?_)
  refine JP_take (i := 6) [0, 1, 2, 3, 4, 5, 6] [] rfl (by kernel_rfl) (by kernel_rfl) (by kernel_rfl) rfl rfl wn rfl (ex_len_rd 0 Tryz.underlying27 rfl rfl) ?_
  refine JP_take (i := 7) [0, 1, 2, 3, 4, 5, 6] [] rfl (by kernel_rfl) (by kernel_rfl) (by kernel_rfl) rfl rfl wn rfl (ex_sub rfl rfl) ?_
  refine JP_take (i := 8) [0, 1, 2, 3, 4, 5, 6] [] rfl (by kernel_rfl) (by kernel_rfl) (by kernel_rfl) rfl rfl wn rfl (ex_move rfl) ?_
  refine JP_take (i := 9) [0, 1, 2, 3, 4, 5, 6] [] rfl (by kernel_rfl) (by kernel_rfl) (by kernel_rfl) rfl rfl wn rfl (ex_nilCheck_pt 4 rfl rfl) ?_
  refine JP_sq (i := 10) [] rfl (by kernel_rfl) (by kernel_rfl) (by kernel_rfl) rfl wn rfl (sq_field_pt 4 (GRewrite.at_To _) fi_88_1 rfl rfl rfl) (fun q11 => ?_)
  refine JP_sq (i := 11) [] rfl (by kernel_rfl) (by kernel_rfl) (by kernel_rfl) rfl wn rfl (sq_load_pt_o 0 (opens_sl _) ti_27 rfl rfl) (fun v12 => ?_)
  refine JP_take (i := 12) [0, 1, 2, 3, 4, 5, 6, 7, 8] [] rfl (by kernel_rfl) (by kernel_rfl) (by kernel_rfl) rfl rfl wn rfl (ex_len_rd 0 Tryz.underlying27 rfl rfl) ?_
  refine JP_take (i := 13) [0, 1, 2, 3, 4, 5, 6, 7, 8] [] rfl (by kernel_rfl) (by kernel_rfl) (by kernel_rfl) rfl rfl wn rfl (ex_add rfl rfl) ?_
  refine JP_take (i := 14) [0, 1, 2, 3, 4, 5, 6, 7, 8] [] rfl (by kernel_rfl) (by kernel_rfl) (by kernel_rfl) rfl rfl wn rfl (ex_gtr rfl rfl) ?_
  refine JP_go [] [] rfl rfl rfl (fun _ _ _ => ?_)
  refine JD_done (by kernel_rfl) ?_
  refine N_then ?_
  refine J_if rfl (fun h13 => ?_) (fun h13 => ?_)
  ·refine J_sr ?_
   refine JA rfl rfl ?_
   refine JA rfl rfl ?_
   refine JL_nt ?_
   refine J_ret ?_
   refine N_then_ret ?_
   refine N_ctx (fun w hh => SH.ow_nil (α := Int) 2 hh) ?_
   exact N_ret2 rfl (rv_tmp rfl) (rv_tmp rfl) (fun w hh => ⟨(.slice none 0 0 : Value), rfl, hh.sel [0] rfl⟩)
  ·refine J_skip ?_
   refine N_then ?_
   refine J_seq ?_
   refine J_draw [] (by kernel_rfl) ?_
   refine JP_take (i := 0) [0, 1, 2, 3, 4, 5, 6, 7, 8] [] rfl (by kernel_rfl) (by kernel_rfl) (by kernel_rfl) rfl rfl wn rfl (ex_move rfl) ?_
   refine JP_take (i := 1) [0, 1, 2, 3, 4, 5, 6, 7, 8] [] rfl (by kernel_rfl) (by kernel_rfl) (by kernel_rfl) rfl rfl wn rfl (ex_move rfl) ?_
   refine JP_take (i := 2) [0, 1, 2, 3, 4, 5, 6, 7, 8] [] rfl (by kernel_rfl) (by kernel_rfl) (by kernel_rfl) rfl rfl wn rfl (ex_move rfl) ?_
   refine JP_take (i := 3) [0, 1, 2, 3, 4, 5, 6, 7, 8] [] rfl (by kernel_rfl) (by kernel_rfl) (by kernel_rfl) rfl rfl wn rfl (ex_nilCheck_pt 6 rfl rfl) ?_
   refine JP_sq (i := 4) [] rfl (by kernel_rfl) (by kernel_rfl) (by kernel_rfl) rfl wn rfl (sq_field_pt 6 (GRewrite.at_From _) fi_88_0 rfl rfl rfl) (fun q14 => ?_)
   refine JP_sq (i := 5) [] rfl (by kernel_rfl) (by kernel_rfl) (by kernel_rfl) rfl wn rfl (sq_load_pt_o 0 (opens_sl _) ti_27 rfl rfl) (fun v15 => ?_)
   refine JP_take (i := 6) [0, 1, 2, 3, 4, 5, 6, 7, 8, 9, 10] [] rfl (by kernel_rfl) (by kernel_rfl) (by kernel_rfl) rfl rfl wn rfl (ex_len_rd 0 Tryz.underlying27 rfl rfl) ?_
   refine JP_take (i := 7) [0, 1, 2, 3, 4, 5, 6, 7, 8, 9, 10] [] rfl (by kernel_rfl) (by kernel_rfl) (by kernel_rfl) rfl rfl wn rfl (ex_move rfl) ?_
   refine JP_take (i := 8) [0, 1, 2, 3, 4, 5, 6, 7, 8, 9, 10] [] rfl (by kernel_rfl) (by kernel_rfl) (by kernel_rfl) rfl rfl wn rfl (ex_nilCheck_pt 8 rfl rfl) ?_
   refine JP_sq (i := 9) [] rfl (by kernel_rfl) (by kernel_rfl) (by kernel_rfl) rfl wn rfl (sq_field_pt 8 (GRewrite.at_To _) fi_88_1 rfl rfl rfl) (fun q16 => ?_)
   refine JP_sq (i := 10) [] rfl (by kernel_rfl) (by kernel_rfl) (by kernel_rfl) rfl wn rfl (sq_load_pt_o 0 (opens_sl _) ti_27 rfl rfl) (fun v17 => ?_)
   refine JP_go [0, 1, 2, 3, 4, 5, 6, 7, 8, 9, 10, 11, 12] [] rfl rfl rfl (fun w19 h1_20 hp18 => ?_)
   refine JD_bnd fun r21 hr22 => ?_
   refine JD_one (i := 11) (by kernel_rfl) ?_
   refine JO_call rfl wn rfl Tryz.call56 rfl (Ca_self (fun _ => rfl) fun w hh => c_spec_l03Put _ w (fun _ hk => hk.elim) _ _ (hh.rd0 11 rfl) _ _ _ _ (hh.rd0 0 rfl) _ hr22) (fun x23 => ?_)
   refine JD_take (i := 12) hp18 rfl (by kernel_rfl) (by kernel_rfl) (by kernel_rfl) wn rfl (ex_assign rfl) ?_
   refine JD_take (i := 13) hp18 rfl (by kernel_rfl) (by kernel_rfl) (by kernel_rfl) wn rfl (ex_assign rfl) ?_
   refine JD_done (by kernel_rfl) ?_
   refine N_then ?_
   refine J_ret ?_
   exact N_ret2 rfl (rv_tmp rfl) (rv_tmp rfl) (fun w hh => ⟨x23, rfl, hh.sel [0] rfl⟩)
set_option maxHeartbeats 40000000 in
theorem c_spec_ApplyRewrite (A : Nat → Prop) (w : World) (hA : ∀ k, A k → k < w.heap.size) (v0_ : Value) (p0 : (List GRewrite)) (hp0 : Rd A w v0_ p0) (v1_ : Value) (p1 : (List Int)) (hp1 : Rd A w v1_ p1) (p2 : Int) (p3 : Int) (r : (List Int) × Int) (hr : F_spec_ApplyRewrite p0 p1 p2 p3 = some r) :
  Con Tryz.prog 100 [v0_, v1_, .int .i64 p2, .int .i64 p3] A w (fun x_ : Value => .tuple #[x_, .int .i64 r.2]) (fun x_ => [.ow 2 x_ r.1]) := by
 refine Con_of (v := fun (r : (List Int) × Int) (x_ : Value) => .tuple #[x_, .int .i64 r.2]) (fs := fun r x_ => [.ow 2 x_ r.1]) Tryz.func100 rfl Tryz.ntmps100 rfl (((SH.start hA).start_rd rfl hp0).start_rd rfl hp1) rfl ?_ hr
 unfold F_spec_ApplyRewrite
 refine J_sr ?_
 refine JA rfl rfl ?_
 refine JA rfl rfl ?_
 refine JL_nt ?_
 refine J_seq ?_
 refine J_cut' (S' := Unit) (G' := Unit) (fun _ _ => [(0, v0_), (1, v1_), (2, .int .i64 p2), (3, .int .i64 p3)]) (fun _ _ => [.rd v0_ p0, .rd v1_ p1]) ?_ (fun s1 g2 => ?_)
 ·refine J_sr ?_
  refine JM rfl rfl ?_
  refine JL_bnd fun r3 hr4 => ?_
  refine JL_call wn rfl Tryz.call95 rfl (Ca_of0 fun w hh => c_spec_l10Is _ w (fun _ hk => hk.elim) _ _ (hh.rd0 1 rfl) _ hr4) (fun _ => ?_)
  refine JL_q wn rfl (ex_not rfl) ?_
  refine JM rfl rfl ?_
  refine JL_cond (fun h5 => ?_) (fun h5 => ?_)
  ·refine JL_passed rfl rfl rfl h5 ?_
   refine JL_passed rfl rfl rfl h5 ?_
   refine JL_passed rfl rfl rfl h5 ?_
   refine JL_q wn rfl (ex_pick_true rfl h5 rfl) ?_
   refine JL_nt ?_
   refine J_if_true rfl rfl ?_
   refine J_sr ?_
   refine JA rfl rfl ?_
   refine JA rfl rfl ?_
   refine JL_nt ?_
   refine J_ret ?_
   refine N_mid_ret ?_
   refine N_then_ret ?_
   refine N_ctx (fun w hh => SH.ow_nil (α := Int) 2 hh) ?_
   exact N_ret2 rfl (rv_tmp rfl) (rv_tmp rfl) (fun w hh => ⟨(.slice none 0 0 : Value), rfl, hh.sel [0] rfl⟩)
  ·refine JL_q (wants_some rfl rfl rfl h5) rfl (ex_move rfl) ?_
   refine JL_bnd fun r6 hr7 => ?_
   refine JL_call (wants_some rfl rfl rfl h5) rfl Tryz.call96 rfl (Ca_of0 fun w hh => c_spec_l03Is _ w (fun _ hk => hk.elim) _ _ (hh.rd0 0 rfl) _ hr7) (fun _ => ?_)
   refine JL_q (wants_some rfl rfl rfl h5) rfl (ex_not rfl) ?_
   refine JL_q wn rfl (ex_pick_false rfl h5 rfl) ?_
   refine JL_nt ?_
   refine J_if rfl (fun h8 => ?_) (fun h8 => ?_)
   ·refine J_sr ?_
    refine JA rfl rfl ?_
    refine JA rfl rfl ?_
    refine JL_nt ?_
    refine J_ret ?_
    refine N_mid_ret ?_
    refine N_then_ret ?_
    refine N_ctx (fun w hh => SH.ow_nil (α := Int) 2 hh) ?_
    exact N_ret2 rfl (rv_tmp rfl) (rv_tmp rfl) (fun w hh => ⟨(.slice none 0 0 : Value), rfl, hh.sel [0] rfl⟩)
   ·refine J_skip ?_
    exact N_meet' () ⟨rfl, rfl, rfl, rfl, trivial⟩ [1, 0] rfl rfl
 ·refine N_then ?_
  refine J_seq ?_
  refine J_sr ?_
  refine JM rfl rfl ?_
  refine JM rfl rfl ?_
  refine JL_q wn rfl (ex_len_rd 0 Tryz.underlying34 rfl rfl) ?_
  refine JL_q wn rfl (ex_sub rfl rfl) ?_
  refine JL_bnd fun r9 hr10 => ?_
  refine JL_call wn rfl Tryz.call118 rfl (Ca_of0 fun w hh => c_spec_l00In _ w (fun _ hk => hk.elim) _ _ _ _ hr10) (fun _ => ?_)
  refine JL_q wn rfl (ex_not rfl) ?_
  refine JM rfl rfl ?_
  refine JL_cond (fun h11 => ?_) (fun h11 => ?_)
  ·refine JL_passed rfl rfl rfl h11 ?_
   refine JL_passed rfl rfl rfl h11 ?_
   refine JL_passed rfl rfl rfl h11 ?_
   refine JL_passed rfl rfl rfl h11 ?_
   refine JL_passed rfl rfl rfl h11 ?_
   refine JL_q wn rfl (ex_pick_true rfl h11 rfl) ?_
   refine JL_nt ?_
   refine J_if_true rfl rfl ?_
   refine J_sr ?_
   refine JA rfl rfl ?_
   refine JA rfl rfl ?_
   refine JL_nt ?_
   refine J_ret ?_
   refine N_then_ret ?_
   refine N_ctx (fun w hh => SH.ow_nil (α := Int) 2 hh) ?_
   exact N_ret2 rfl (rv_tmp rfl) (rv_tmp rfl) (fun w hh => ⟨(.slice none 0 0 : Value), rfl, hh.sel [0] rfl⟩)
  ·refine JL_q (wants_some rfl rfl rfl h11) rfl (ex_move rfl) ?_
   refine JL_q (wants_some rfl rfl rfl h11) rfl (ex_move rfl) ?_
   refine JL_q (wants_some rfl rfl rfl h11) rfl (ex_len_rd 1 Tryz.underlying27 rfl rfl) ?_
   refine JL_bnd fun r12 hr13 => ?_
   refine JL_call (wants_some rfl rfl rfl h11) rfl Tryz.call118 rfl (Ca_of0 fun w hh => c_spec_l00In _ w (fun _ hk => hk.elim) _ _ _ _ hr13) (fun _ => ?_)
   refine JL_q (wants_some rfl rfl rfl h11) rfl (ex_not rfl) ?_
   refine JL_q wn rfl (ex_pick_false rfl h11 rfl) ?_
   refine JL_nt ?_
   refine J_if rfl (fun h14 => ?_) (fun h14 => ?_)
   ·refine J_sr ?_
    refine JA rfl rfl ?_
    refine JA rfl rfl ?_
    refine JL_nt ?_
    refine J_ret ?_
    refine N_then_ret ?_
    refine N_ctx (fun w hh => SH.ow_nil (α := Int) 2 hh) ?_
    exact N_ret2 rfl (rv_tmp rfl) (rv_tmp rfl) (fun w hh => ⟨(.slice none 0 0 : Value), rfl, hh.sel [0] rfl⟩)
   ·refine J_skip ?_
    refine N_then ?_
    refine J_sr ?_
    refine JM rfl rfl ?_
    refine JM rfl rfl ?_
    refine JM rfl rfl ?_
    refine JM rfl rfl ?_
    refine JL_bnd fun r15 hr16 => ?_
    refine JL_call wn rfl Tryz.call119 rfl (Ca_self (fun _ => rfl) fun w hh => c_spec_l10Apply _ w (fun _ hk => hk.elim) _ _ (hh.rd0 0 rfl) _ _ (hh.rd0 1 rfl) _ _ _ hr16) (fun x17 => ?_)
    refine JL_q wn rfl (ex_extract rfl rfl) ?_
    refine JL_q wn rfl (ex_extract rfl rfl) ?_
    refine JA rfl rfl ?_
    refine JA rfl rfl ?_
    refine JL_nt ?_
    refine J_ret ?_
    exact N_ret2 rfl (rv_tmp rfl) (rv_tmp rfl) (fun w hh => ⟨x17, rfl, hh.sel [0] rfl⟩)
set_option maxHeartbeats 40000000 in
theorem c_spec_CheckDerivation (A : Nat → Prop) (w : World) (hA : ∀ k, A k → k < w.heap.size) (v0_ : Value) (p0 : (List GRewrite)) (hp0 : Rd A w v0_ p0) (v1_ : Value) (p1 : (List Int)) (hp1 : Rd A w v1_ p1) (v2_ : Value) (p2 : (List (List Int))) (hp2 : Rd A w v2_ p2) (r : (List Int) × Int) (hr : F_spec_CheckDerivation p0 p1 p2 = some r) :
  Con Tryz.prog 52 [v0_, v1_, v2_] A w (fun x_ : Value => .tuple #[x_, .int .i64 r.2]) (fun x_ => [.ow 2 x_ r.1]) := by
 refine Con_of (v := fun (r : (List Int) × Int) (x_ : Value) => .tuple #[x_, .int .i64 r.2]) (fs := fun r x_ => [.ow 2 x_ r.1]) Tryz.func52 rfl Tryz.ntmps52 rfl ((((SH.start hA).start_rd rfl hp0).start_rd rfl hp1).start_rd rfl hp2) rfl ?_ hr
 unfold F_spec_CheckDerivation
 refine J_sr ?_
 refine JA rfl rfl ?_
 refine JA rfl rfl ?_
 refine JL_nt ?_
 refine J_seq ?_
 refine J_cut' (S' := Unit) (G' := Unit) (fun _ _ => [(0, v0_), (1, v1_), (2, v2_)]) (fun _ _ => [.rd v0_ p0, .rd v1_ p1, .rd v2_ p2]) ?_ (fun s1 g2 => ?_)
 ·refine J_sr ?_
  refine JM rfl rfl ?_
  refine JL_bnd fun r3 hr4 => ?_
  refine JL_call wn rfl Tryz.call95 rfl (Ca_of0 fun w hh => c_spec_l10Is _ w (fun _ hk => hk.elim) _ _ (hh.rd0 2 rfl) _ hr4) (fun _ => ?_)
  refine JL_q wn rfl (ex_not rfl) ?_
  refine JM rfl rfl ?_
  refine JL_cond (fun h5 => ?_) (fun h5 => ?_)
  ·refine JL_passed rfl rfl rfl h5 ?_
   refine JL_passed rfl rfl rfl h5 ?_
   refine JL_passed rfl rfl rfl h5 ?_
   refine JL_q wn rfl (ex_pick_true rfl h5 rfl) ?_
   refine JL_nt ?_
   refine J_if_true rfl rfl ?_
   refine J_sr ?_
   refine JA rfl rfl ?_
   refine JA rfl rfl ?_
   refine JL_nt ?_
   refine J_ret ?_
   refine N_mid_ret ?_
   refine N_then_ret ?_
   refine N_ctx (fun w hh => SH.ow_nil (α := Int) 2 hh) ?_
   exact N_ret2 rfl (rv_tmp rfl) (rv_tmp rfl) (fun w hh => ⟨(.slice none 0 0 : Value), rfl, hh.sel [0] rfl⟩)
  ·refine JL_q (wants_some rfl rfl rfl h5) rfl (ex_move rfl) ?_
   refine JL_bnd fun r6 hr7 => ?_
   refine JL_call (wants_some rfl rfl rfl h5) rfl Tryz.call96 rfl (Ca_of0 fun w hh => c_spec_l03Is _ w (fun _ hk => hk.elim) _ _ (hh.rd0 1 rfl) _ hr7) (fun _ => ?_)
   refine JL_q (wants_some rfl rfl rfl h5) rfl (ex_not rfl) ?_
   refine JL_q wn rfl (ex_pick_false rfl h5 rfl) ?_
   refine JL_nt ?_
   refine J_if rfl (fun h8 => ?_) (fun h8 => ?_)
   ·refine J_sr ?_
    refine JA rfl rfl ?_
    refine JA rfl rfl ?_
    refine JL_nt ?_
    refine J_ret ?_
    refine N_mid_ret ?_
    refine N_then_ret ?_
    refine N_ctx (fun w hh => SH.ow_nil (α := Int) 2 hh) ?_
    exact N_ret2 rfl (rv_tmp rfl) (rv_tmp rfl) (fun w hh => ⟨(.slice none 0 0 : Value), rfl, hh.sel [0] rfl⟩)
   ·refine J_skip ?_
    exact N_meet' () ⟨rfl, rfl, rfl, trivial⟩ [2, 1, 0] rfl rfl
 ·refine N_then ?_
  refine J_seq ?_
  refine J_sr ?_
  refine JM rfl rfl ?_
  refine JL_q wn rfl (ex_len_rd 2 Tryz.underlying39 rfl rfl) ?_
  refine JL_q wn rfl (ex_gtr rfl rfl) ?_
  refine JL_nt ?_
  refine J_if rfl (fun h9 => ?_) (fun h9 => ?_)
  ·refine J_sr ?_
   refine JA rfl rfl ?_
   refine JA rfl rfl ?_
   refine JL_nt ?_
   refine J_ret ?_
   refine N_then_ret ?_
   refine N_ctx (fun w hh => SH.ow_nil (α := Int) 2 hh) ?_
   exact N_ret2 rfl (rv_tmp rfl) (rv_tmp rfl) (fun w hh => ⟨(.slice none 0 0 : Value), rfl, hh.sel [0] rfl⟩)
  ·refine J_skip ?_
   refine N_then ?_
   refine J_sr ?_
   refine JM rfl rfl ?_
   refine JL_bnd fun r10 hr11 => ?_
   refine JL_call wn rfl Tryz.call54 rfl (Ca_self (fun _ => rfl) fun w hh => c_spec_l00Own _ w (fun _ hk => hk.elim) _ _ (hh.rd0 1 rfl) _ hr11) (fun x12 => ?_)
   refine JA rfl rfl ?_
   refine JL_nt ?_
   refine J_seq ?_
   refine J_sr ?_
   refine JA rfl rfl ?_
   refine JL_nt ?_
   refine J_loop' (S := (List Int) × Int) (G := Value) (F_spec_CheckDerivation_L1 p0 p2) (fun s13 g14 => [(0, v0_), (2, v2_), (8, g14), (9, .int .i64 s13.2)]) (fun s13 g14 => [.rd v0_ p0, .rd v2_ p2, .ow 2 g14 s13.1]) (r10, 0) x12 ⟨rfl, rfl, rfl, rfl, trivial⟩ [1, 3, 0] rfl rfl (fun s13 g14 => ?_) (fun s13 g14 => ?_)
   ·unfold F_spec_CheckDerivation_L1
    refine J_seq ?_
    refine J_sr ?_
    refine JM rfl rfl ?_
    refine JM rfl rfl ?_
    refine JL_q wn rfl (ex_len_rd 1 Tryz.underlying39 rfl rfl) ?_
    refine JL_q wn rfl (ex_lss rfl rfl) ?_
    refine JL_nt ?_
    refine J_if rfl (fun h15 => ?_) (fun h15 => ?_)
    ·refine J_skip ?_
     refine N_then ?_
     refine J_seq ?_
     refine J_block ?_
     refine J_seq ?_
     refine J_sr ?_
     refine JM rfl rfl ?_
     refine JM rfl rfl ?_
     refine JL_bnd fun y16 hy17 => ?_
     refine JL_st wn rfl (st_index 1 Tryz.underlying39 ti_27 rfl rfl rfl hy17) (fun q18 => ?_)
     refine JL_st wn rfl (st_load_pt_o 0 (opens_sl _) ti_27 rfl rfl) (fun v19 => ?_)
     refine JL_q wn rfl (ex_len_rd 0 Tryz.underlying27 rfl rfl) ?_
     refine JL_q wn rfl (ex_neq rfl rfl) ?_
     refine JL_nt ?_
     refine J_if rfl (fun h20 => ?_) (fun h20 => ?_)
     ·refine J_sr ?_
      refine JA rfl rfl ?_
      refine JA rfl rfl ?_
      refine JL_nt ?_
      refine J_ret ?_
      refine N_then_ret ?_
      refine N_block_ret ?_
      refine N_then_ret ?_
      refine N_round_ret ?_
      refine N_then_ret ?_
      refine N_ctx (fun w hh => SH.ow_nil (α := Int) 2 hh) ?_
      exact N_ret2 rfl (rv_tmp rfl) (rv_tmp rfl) (fun w hh => ⟨(.slice none 0 0 : Value), rfl, hh.sel [0] rfl⟩)
     ·refine J_skip ?_
      refine N_then ?_
      refine J_seq ?_
      refine J_draw [] (by kernel_rfl) ?_
      refine JP_take (i := 0) [0, 1, 2, 3, 4] [] rfl (by kernel_rfl) (by kernel_rfl) (by kernel_rfl) rfl rfl wn rfl (ex_move rfl) ?_
      refine JP_take (i := 1) [0, 1, 2, 3, 4] [] rfl (by kernel_rfl) (by kernel_rfl) (by kernel_rfl) rfl rfl wn rfl (ex_move rfl) ?_
      refine JP_take (i := 2) [0, 1, 2, 3, 4] [] rfl (by kernel_rfl) (by kernel_rfl) (by kernel_rfl) rfl rfl wn rfl (ex_move rfl) ?_
      refine JP_take (i := 3) [0, 1, 2, 3, 4] [] rfl (by kernel_rfl) (by kernel_rfl) (by kernel_rfl) rfl rfl wn rfl (ex_move rfl) ?_
      refine JP_bnd fun y21 hy22 => ?_
      refine JP_sq (i := 4) [] rfl (by kernel_rfl) (by kernel_rfl) (by kernel_rfl) rfl wn rfl (sq_index 3 Tryz.underlying39 ti_27 rfl rfl rfl hy22) (fun q23 => ?_)
      refine JP_sq (i := 5) [] rfl (by kernel_rfl) (by kernel_rfl) (by kernel_rfl) rfl wn rfl (sq_load_pt_o 0 (opens_sl _) ti_27 rfl rfl) (fun v24 => ?_)
      refine JP_bnd fun y25 hy26 => ?_
      refine JP_sq (i := 6) [] rfl (by kernel_rfl) (by kernel_rfl) (by kernel_rfl) rfl wn rfl (sq_index 0 Tryz.underlying27 ti_2 rfl rfl rfl hy26) (fun q27 => ?_)
      refine JP_sq (i := 7) [] rfl (by kernel_rfl) (by kernel_rfl) (by kernel_rfl) rfl wn rfl (sq_load_pt_o 0 (opens_int _) ti_2 rfl rfl) (fun _ => ?_)
      refine JP_take (i := 8) [0, 1, 2, 3, 4, 5, 6, 7] [] rfl (by kernel_rfl) (by kernel_rfl) (by kernel_rfl) rfl rfl wn rfl (ex_move rfl) ?_
      refine JP_take (i := 9) [0, 1, 2, 3, 4, 5, 6, 7] [] rfl (by kernel_rfl) (by kernel_rfl) (by kernel_rfl) rfl rfl wn rfl (ex_move rfl) ?_
      refine JP_bnd fun y29 hy30 => ?_
      refine JP_sq (i := 10) [] rfl (by kernel_rfl) (by kernel_rfl) (by kernel_rfl) rfl wn rfl (sq_index 6 Tryz.underlying39 ti_27 rfl rfl rfl hy30) (fun q31 => ?_)
      refine JP_sq (i := 11) [] rfl (by kernel_rfl) (by kernel_rfl) (by kernel_rfl) rfl wn rfl (sq_load_pt_o 0 (opens_sl _) ti_27 rfl rfl) (fun v32 => ?_)
      refine JP_bnd fun y33 hy34 => ?_
      refine JP_sq (i := 12) [] rfl (by kernel_rfl) (by kernel_rfl) (by kernel_rfl) rfl wn rfl (sq_index 0 Tryz.underlying27 ti_2 rfl rfl rfl hy34) (fun q35 => ?_)
      refine JP_sq (i := 13) [] rfl (by kernel_rfl) (by kernel_rfl) (by kernel_rfl) rfl wn rfl (sq_load_pt_o 0 (opens_int _) ti_2 rfl rfl) (fun _ => ?_)
      refine JP_go [0, 1, 2, 3, 4, 5, 6, 7, 8, 9, 10] [] rfl rfl rfl (fun w38 h1_39 hp37 => ?_)
      refine JD_bnd fun r40 hr41 => ?_
      refine JD_one (i := 14) (by kernel_rfl) ?_
      refine JO_call rfl wn rfl Tryz.call100 rfl (Ca_self (fun _ => rfl) fun w hh => c_spec_ApplyRewrite _ w (fun _ hk => hk.elim) _ _ (hh.rd0 8 rfl) _ _ (hh.ow0 10 rfl) _ _ _ hr41) (fun x42 => ?_)
      refine JD_take (i := 15) hp37 rfl (by kernel_rfl) (by kernel_rfl) (by kernel_rfl) wn rfl (ex_move rfl) ?_
      refine JD_take (i := 16) hp37 rfl (by kernel_rfl) (by kernel_rfl) (by kernel_rfl) wn rfl (ex_extract rfl rfl) ?_
      refine JD_take (i := 17) hp37 rfl (by kernel_rfl) (by kernel_rfl) (by kernel_rfl) wn rfl (ex_extract rfl rfl) ?_
      refine JD_take (i := 18) hp37 rfl (by kernel_rfl) (by kernel_rfl) (by kernel_rfl) wn rfl (ex_assign rfl) ?_
      refine JD_take (i := 19) hp37 rfl (by kernel_rfl) (by kernel_rfl) (by kernel_rfl) wn rfl (ex_assign rfl) ?_
      refine JD_done (by kernel_rfl) ?_
      refine N_then ?_
      refine J_seq ?_
      refine J_sr ?_
      refine JM rfl rfl ?_
      refine JL_q wn rfl (ex_neq rfl rfl) ?_
      refine JL_nt ?_
      refine J_if rfl (fun h43 => ?_) (fun h43 => ?_)
      ·refine J_sr ?_
       refine JA rfl rfl ?_
       refine JA rfl rfl ?_
       refine JL_nt ?_
       refine J_ret ?_
       refine N_then_ret ?_
       refine N_block_ret ?_
       refine N_then_ret ?_
       refine N_round_ret ?_
       refine N_then_ret ?_
       refine N_ctx (fun w hh => SH.ow_nil (α := Int) 2 hh) ?_
       exact N_ret2 rfl (rv_tmp rfl) (rv_tmp rfl) (fun w hh => ⟨(.slice none 0 0 : Value), rfl, hh.sel [0] rfl⟩)
      ·refine J_skip ?_
       refine N_then ?_
       refine J_region ?_
       refine JM rfl rfl ?_
       refine JA rfl rfl ?_
       refine JL_nil ?_
       refine N_block ?_
       refine N_then ?_
       refine J_region ?_
       refine JM rfl rfl ?_
       refine JL_q wn rfl (ex_add rfl rfl) ?_
       refine JA rfl rfl ?_
       refine JL_nil ?_
       exact N_next' x42 ⟨rfl, rfl, rfl, rfl, trivial⟩ [9, 10, 0] rfl rfl
    ·refine J_exit ?_
     refine N_then_exit ?_
     exact N_break' g14 ⟨rfl, rfl, rfl, rfl, trivial⟩ [0, 1, 2] rfl rfl
   ·refine N_then ?_
    refine J_sr ?_
    refine JM rfl rfl ?_
    refine JA rfl rfl ?_
    refine JA rfl rfl ?_
    refine JL_nt ?_
    refine J_ret ?_
    exact N_ret2 rfl (rv_tmp rfl) (rv_tmp rfl) (fun w hh => ⟨g14, rfl, hh.sel [2] rfl⟩)
set_option maxHeartbeats 40000000 in
theorem c_spec_MatchOfDerivation (A : Nat → Prop) (w : World) (hA : ∀ k, A k → k < w.heap.size) (v0_ : Value) (p0 : (List GRewrite)) (hp0 : Rd A w v0_ p0) (v1_ : Value) (p1 : (List Int)) (hp1 : Rd A w v1_ p1) (v2_ : Value) (p2 : (List Int)) (hp2 : Rd A w v2_ p2) (v3_ : Value) (p3 : (List (List Int))) (hp3 : Rd A w v3_ p3) (r : (List Int) × Int) (hr : F_spec_MatchOfDerivation p0 p1 p2 p3 = some r) :
  Con Tryz.prog 15 [v0_, v1_, v2_, v3_] A w (fun x_ : Value => .tuple #[x_, .int .i64 r.2]) (fun x_ => [.ow 2 x_ r.1]) := by
 refine Con_of (v := fun (r : (List Int) × Int) (x_ : Value) => .tuple #[x_, .int .i64 r.2]) (fs := fun r x_ => [.ow 2 x_ r.1]) Tryz.func15 rfl Tryz.ntmps15 rfl (((((SH.start hA).start_rd rfl hp0).start_rd rfl hp1).start_rd rfl hp2).start_rd rfl hp3) rfl ?_ hr
 unfold F_spec_MatchOfDerivation
 refine J_sr ?_
 refine JA rfl rfl ?_
 refine JA rfl rfl ?_
 refine JL_nt ?_
 refine J_seq ?_
 refine J_sr ?_
 refine JM rfl rfl ?_
 refine JM rfl rfl ?_
 refine JM rfl rfl ?_
 refine JL_bnd fun r1 hr2 => ?_
 refine JL_call wn rfl Tryz.call50 rfl (Ca_of0 fun w hh => c_spec_l32Ready _ w (fun _ hk => hk.elim) _ _ (hh.rd0 3 rfl) _ _ (hh.rd0 2 rfl) _ _ (hh.rd0 1 rfl) _ hr2) (fun _ => ?_)
 refine JL_q wn rfl (ex_not rfl) ?_
 refine JL_nt ?_
 refine J_if rfl (fun h3 => ?_) (fun h3 => ?_)
 ·refine J_sr ?_
  refine JA rfl rfl ?_
  refine JA rfl rfl ?_
  refine JL_nt ?_
  refine J_ret ?_
  refine N_then_ret ?_
  refine N_ctx (fun w hh => SH.ow_nil (α := Int) 2 hh) ?_
  exact N_ret2 rfl (rv_tmp rfl) (rv_tmp rfl) (fun w hh => ⟨(.slice none 0 0 : Value), rfl, hh.sel [0] rfl⟩)
 ·refine J_skip ?_
  refine N_then ?_
  refine J_sr ?_
  refine JM rfl rfl ?_
  refine JM rfl rfl ?_
  refine JM rfl rfl ?_
  refine JL_bnd fun r4 hr5 => ?_
  refine JL_call wn rfl Tryz.call51 rfl (Ca_self (fun _ => rfl) fun w hh => c_spec_l32Rules _ w (fun _ hk => hk.elim) _ _ (hh.rd0 3 rfl) _ _ (hh.rd0 2 rfl) _ _ (hh.rd0 1 rfl) _ hr5) (fun x6 => ?_)
  obtain ⟨x6_0, x6_1⟩ := x6
  refine JM rfl rfl ?_
  refine JL_q wn rfl (ex_extract rfl rfl) ?_
  refine JL_q wn rfl (ex_extract rfl rfl) ?_
  refine JA rfl rfl ?_
  refine JA rfl rfl ?_
  refine JL_nt ?_
  refine J_seq ?_
  refine J_sr ?_
  refine JM rfl rfl ?_
  refine JL_q wn rfl (ex_neq rfl rfl) ?_
  refine JL_nt ?_
  refine J_if rfl (fun h7 => ?_) (fun h7 => ?_)
  ·refine J_sr ?_
   refine JM rfl rfl ?_
   refine JA rfl rfl ?_
   refine JA rfl rfl ?_
   refine JL_nt ?_
   refine J_ret ?_
   refine N_then_ret ?_
   refine N_ctx (fun w hh => SH.ow_nil (α := Int) 2 hh) ?_
   exact N_ret2 rfl (rv_tmp rfl) (rv_tmp rfl) (fun w hh => ⟨(.slice none 0 0 : Value), rfl, hh.sel [0] rfl⟩)
  ·refine J_skip ?_
   refine N_then ?_
   refine J_sr ?_
   refine JM rfl rfl ?_
   refine JM rfl rfl ?_
   refine JM rfl rfl ?_
   refine JL_bnd fun r8 hr9 => ?_
   refine JL_call wn rfl Tryz.call52 rfl (Ca_self (fun _ => rfl) fun w hh => c_spec_CheckDerivation _ w (fun _ hk => hk.elim) _ _ (hh.rd0 4 rfl) _ _ (hh.rd0 3 rfl) _ _ (hh.rd0 1 rfl) _ hr9) (fun x10 => ?_)
   refine JM rfl rfl ?_
   refine JL_q wn rfl (ex_extract rfl rfl) ?_
   refine JL_q wn rfl (ex_extract rfl rfl) ?_
   refine JA rfl rfl ?_
   refine JA rfl rfl ?_
   refine JL_nt ?_
   refine J_seq ?_
   refine J_sr ?_
   refine JM rfl rfl ?_
   refine JL_q wn rfl (ex_neq rfl rfl) ?_
   refine JL_nt ?_
   refine J_if rfl (fun h11 => ?_) (fun h11 => ?_)
   ·refine J_sr ?_
    refine JM rfl rfl ?_
    refine JA rfl rfl ?_
    refine JA rfl rfl ?_
    refine JL_nt ?_
    refine J_ret ?_
    refine N_then_ret ?_
    refine N_ctx (fun w hh => SH.ow_nil (α := Int) 2 hh) ?_
    exact N_ret2 rfl (rv_tmp rfl) (rv_tmp rfl) (fun w hh => ⟨(.slice none 0 0 : Value), rfl, hh.sel [0] rfl⟩)
   ·refine J_skip ?_
    refine N_then ?_
    refine J_seq ?_
    refine J_sr ?_
    refine JM rfl rfl ?_
    refine JM rfl rfl ?_
    refine JL_bnd fun r12 hr13 => ?_
    refine JL_call wn rfl Tryz.call53 rfl (Ca_of0 fun w hh => c_spec_l00Same _ w (fun _ hk => hk.elim) _ _ (hh.ow0 0 rfl) _ _ (hh.rd0 3 rfl) _ hr13) (fun _ => ?_)
    refine JL_q wn rfl (ex_not rfl) ?_
    refine JL_nt ?_
    refine J_if rfl (fun h14 => ?_) (fun h14 => ?_)
    ·refine J_sr ?_
     refine JA rfl rfl ?_
     refine JA rfl rfl ?_
     refine JL_nt ?_
     refine J_ret ?_
     refine N_then_ret ?_
     refine N_ctx (fun w hh => SH.ow_nil (α := Int) 2 hh) ?_
     exact N_ret2 rfl (rv_tmp rfl) (rv_tmp rfl) (fun w hh => ⟨(.slice none 0 0 : Value), rfl, hh.sel [0] rfl⟩)
    ·refine J_skip ?_
     refine N_then ?_
     refine J_sr ?_
     refine JL_st wn rfl (st_buildSlice (vs := [.int .i64 0]) ([0] : List Int) Tryz.underlying27 ti_2 zi_2 rfl rfl rfl (fun w hh => ⟨(Rd.mk_int _ _ _), trivial⟩)) (fun b15 => ?_)
     refine JA rfl rfl ?_
     refine JL_nt ?_
     refine J_sr ?_
     refine JM rfl rfl ?_
     refine JL_bnd fun r16 hr17 => ?_
     refine JL_call wn rfl Tryz.call54 rfl (Ca_self (fun _ => rfl) fun w hh => c_spec_l00Own _ w (fun _ hk => hk.elim) _ _ (hh.rd0 5 rfl) _ hr17) (fun x18 => ?_)
     refine JA rfl rfl ?_
     refine JL_nt ?_
     refine J_seq ?_
     refine J_sr ?_
     refine JA rfl rfl ?_
     refine JL_nt ?_
     refine J_loop' (S := (List Int) × (List Int) × Int) (G := Value × Value) (F_spec_MatchOfDerivation_L1 p0 p3) (fun s19 g20 => [(0, v0_), (3, v3_), (10, x6_0), (14, g20.1), (15, g20.2), (16, .int .i64 s19.2.2)]) (fun s19 g20 => [.rd v0_ p0, .rd v3_ p3, .od 95 x6_0 r4.1 x6_1, .ow 2 g20.1 s19.1, .ow 2 g20.2 s19.2.1]) (([0] : List Int), r16, 0) ((.slice (some ⟨b15, 0, none⟩) 1 1), x18) ⟨rfl, rfl, rfl, rfl, rfl, rfl, trivial⟩ [7, 4, 3, 1, 0] rfl rfl (fun s19 g20 => ?_) (fun s19 g20 => ?_)
     ·obtain ⟨g20_0, g20_1⟩ := g20
      unfold F_spec_MatchOfDerivation_L1
      refine J_seq ?_
      refine J_sr ?_
      refine JM rfl rfl ?_
      refine JM rfl rfl ?_
      refine JL_q wn rfl (ex_len_rd 1 Tryz.underlying39 rfl rfl) ?_
      refine JL_q wn rfl (ex_lss rfl rfl) ?_
      refine JL_nt ?_
      refine J_if rfl (fun h21 => ?_) (fun h21 => ?_)
      ·refine J_skip ?_
       refine N_then ?_
       refine J_seq ?_
       refine J_block ?_
       refine J_sr ?_
       refine JM rfl rfl ?_
       refine JM rfl rfl ?_
       refine JM rfl rfl ?_
       refine JL_bnd fun y22 hy23 => ?_
       refine JL_st wn rfl (st_index 1 Tryz.underlying39 ti_27 rfl rfl rfl hy23) (fun q24 => ?_)
       refine JL_st wn rfl (st_load_pt_o 0 (opens_sl _) ti_27 rfl rfl) (fun v25 => ?_)
       refine JL_bnd fun y26 hy27 => ?_
       refine JL_st wn rfl (st_index 0 Tryz.underlying27 ti_2 rfl rfl rfl hy27) (fun q28 => ?_)
       refine JL_st wn rfl (st_load_pt_o 0 (opens_int _) ti_2 rfl rfl) (fun _ => ?_)
       refine JL_bnd fun y30 hy31 => ?_
       refine JL_st wn rfl (st_index 3 Tryz.underlying34 ti_88 rfl rfl rfl hy31) (fun q32 => ?_)
       refine JA rfl rfl ?_
       refine JL_nt ?_
       refine J_sr ?_
       refine JM rfl rfl ?_
       refine JM rfl rfl ?_
       refine JL_bnd fun y33 hy34 => ?_
       refine JL_st wn rfl (st_index 5 Tryz.underlying39 ti_27 rfl rfl rfl hy34) (fun q35 => ?_)
       refine JL_st wn rfl (st_load_pt_o 0 (opens_sl _) ti_27 rfl rfl) (fun v36 => ?_)
       refine JL_bnd fun y37 hy38 => ?_
       refine JL_st wn rfl (st_index 0 Tryz.underlying27 ti_2 rfl rfl rfl hy38) (fun q39 => ?_)
       refine JL_st wn rfl (st_load_pt_o 0 (opens_int _) ti_2 rfl rfl) (fun _ => ?_)
       refine JA rfl rfl ?_
       refine JL_nt ?_
       refine J_sr ?_
       refine JM rfl rfl ?_
       refine JM rfl rfl ?_
       refine JM rfl rfl ?_
       refine JL_bnd fun z41 hz42 => ?_
       refine JL_ctx (fun w hh => hh.tokf 11 rfl rfl) ?_
       refine JL_st wn rfl (st_slice 12 Tryz.underlying27 ti_2 rfl rfl rfl rfl hz42) (fun v43 => ?_)
       refine JL_inline wn rfl Tryz.call55 rfl Tryz.func55 rfl Tryz.ntmps55 rfl rfl (fun K_ hK44 => ?_)
       refine J_sr ?_
       refine JA rfl rfl ?_
       refine JL_nt ?_
       refine J_seq ?_
       refine J_sr ?_
       refine JA rfl rfl ?_
       refine JL_nt ?_
       refine J_loop' (S := (List Int) × Int) (G := Value) (F_spec_MatchOfDerivation_L2 z41) (fun s45 g46 => [(0, g46), (1, v43), (5, .int .i64 s45.2)]) (fun s45 g46 => [.ow 2 g46 s45.1, .rd v43 z41, .rd v0_ p0, .rd v3_ p3, .od 95 x6_0 r4.1 x6_1, .rd g20_1 s19.2.1, .tkn g20_1 s19.2.1 ((g20_1 : Value).ownBlock.toList ++ []), .pt q32 y30]) (s19.1, 0) g20_0 ⟨rfl, rfl, rfl, trivial⟩ [12, 0, 9, 10, 11, 13, 1, 5] rfl rfl (fun s45 g46 => ?_) (fun s45 g46 => ?_)
       ·unfold F_spec_MatchOfDerivation_L2
        refine J_seq ?_
        refine J_sr ?_
        refine JM rfl rfl ?_
        refine JM rfl rfl ?_
        refine JL_q wn rfl (ex_len_rd 1 Tryz.underlying27 rfl rfl) ?_
        refine JL_q wn rfl (ex_lss rfl rfl) ?_
        refine JL_nt ?_
        refine J_if rfl (fun h47 => ?_) (fun h47 => ?_)
        ·refine J_skip ?_
         refine N_then ?_
         refine J_seq ?_
         refine J_block ?_
         refine J_region ?_
         refine JM rfl rfl ?_
         refine JM rfl rfl ?_
         refine JM rfl rfl ?_
         refine JL_bnd fun y48 hy49 => ?_
         refine JL_st wn rfl (st_index 1 Tryz.underlying27 ti_2 rfl rfl rfl hy49) (fun q50 => ?_)
         refine JL_st wn rfl (st_load_pt_o 0 (opens_int _) ti_2 rfl rfl) (fun _ => ?_)
         refine JL_q wn rfl (ex_add rfl rfl) ?_
         refine JL_st wn rfl (st_buildSlice (vs := [.int .i64 (w64 (1 + y48))]) ([(w64 (1 + y48))] : List Int) Tryz.underlying27 ti_2 zi_2 rfl rfl rfl (fun w hh => ⟨(Rd.mk_int _ _ _), trivial⟩)) (fun b52 => ?_)
         refine JL_bnd fun z53 hz54 => ?_
         refine JL_st wn rfl (st_append 2 Tryz.underlying27 ti_2 zi_2 rfl bi_2 rfl rfl rfl rfl (fun w hh => hh.src_ow 0 rfl) hz54) (fun v55 => ?_)
         refine JA rfl rfl ?_
         refine JL_nil ?_
         refine N_block ?_
         refine N_then ?_
         refine J_region ?_
         refine JM rfl rfl ?_
         refine JL_q wn rfl (ex_add rfl rfl) ?_
         refine JA rfl rfl ?_
         refine JL_nil ?_
         exact N_next' v55 ⟨rfl, rfl, rfl, trivial⟩ [2, 3, 4, 5, 6, 7, 8, 9] rfl rfl
        ·refine J_exit ?_
         refine N_then_exit ?_
         exact N_break' g46 ⟨rfl, rfl, rfl, trivial⟩ [0, 1, 2, 3, 4, 5, 6, 7] rfl rfl
       ·refine N_then ?_
        refine J_sr ?_
        refine JM rfl rfl ?_
        refine JA rfl rfl ?_
        refine JL_nt ?_
        refine J_ret ?_
        refine N_inl1 hK44 rfl (rv_tmp rfl) ?_
        refine JA rfl rfl ?_
        refine JL_nt ?_
        refine J_sr ?_
        refine JM rfl rfl ?_
        refine JM rfl rfl ?_
        refine JM rfl rfl ?_
        refine JL_bnd fun y56 hy57 => ?_
        refine JL_st wn rfl (st_index 3 Tryz.underlying39 ti_27 rfl rfl rfl hy57) (fun q58 => ?_)
        refine JL_st wn rfl (st_load_pt_o 0 (opens_sl _) ti_27 rfl rfl) (fun v59 => ?_)
        refine JL_bnd fun y60 hy61 => ?_
        refine JL_st wn rfl (st_index 0 Tryz.underlying27 ti_2 rfl rfl rfl hy61) (fun q62 => ?_)
        refine JL_st wn rfl (st_load_pt_o 0 (opens_int _) ti_2 rfl rfl) (fun _ => ?_)
        refine JL_q wn rfl (ex_add rfl rfl) ?_
        refine JL_st wn rfl (st_buildSlice (vs := [.int .i64 (w64 (8 + y60))]) ([(w64 (8 + y60))] : List Int) Tryz.underlying27 ti_2 zi_2 rfl rfl rfl (fun w hh => ⟨(Rd.mk_int _ _ _), trivial⟩)) (fun b64 => ?_)
        refine JL_bnd fun z65 hz66 => ?_
        refine JL_st wn rfl (st_append 4 Tryz.underlying27 ti_2 zi_2 rfl bi_2 rfl rfl rfl rfl (fun w hh => hh.src_ow 0 rfl) hz66) (fun v67 => ?_)
        refine JA rfl rfl ?_
        refine JL_nt ?_
        refine J_sr ?_
        refine JM rfl rfl ?_
        refine JM rfl rfl ?_
        refine JM rfl rfl ?_
        refine JM rfl rfl ?_
        refine JL_q wn rfl (ex_nilCheck_pt 11 rfl rfl) ?_
        refine JL_st wn rfl (st_field_pt 11 (GRewrite.at_From _) fi_88_0 rfl rfl rfl) (fun q68 => ?_)
        refine JL_st wn rfl (st_load_pt_o 0 (opens_sl _) ti_27 rfl rfl) (fun v69 => ?_)
        refine JL_q wn rfl (ex_len_rd 0 Tryz.underlying27 rfl rfl) ?_
        refine JL_q wn rfl (ex_add rfl rfl) ?_
        refine JL_bnd fun z70 hz71 => ?_
        refine JL_st wn rfl (st_slice 11 Tryz.underlying27 ti_2 rfl rfl rfl rfl hz71) (fun v72 => ?_)
        refine JL_inline wn rfl Tryz.call55 rfl Tryz.func55 rfl Tryz.ntmps55 rfl rfl (fun K_ hK73 => ?_)
        refine J_sr ?_
        refine JA rfl rfl ?_
        refine JL_nt ?_
        refine J_seq ?_
        refine J_sr ?_
        refine JA rfl rfl ?_
        refine JL_nt ?_
        refine J_loop' (S := (List Int) × Int) (G := Value) (F_spec_MatchOfDerivation_L3 z70) (fun s74 g75 => [(0, g75), (1, v72), (5, .int .i64 s74.2)]) (fun s74 g75 => [.ow 2 g75 s74.1, .rd v72 z70, .rd v0_ p0, .rd v3_ p3, .od 95 x6_0 r4.1 x6_1, .rd g20_1 s19.2.1, .tkn g20_1 s19.2.1 ((g20_1 : Value).ownBlock.toList ++ []), .pt q32 y30]) (z65, 0) v67 ⟨rfl, rfl, rfl, trivial⟩ [7, 0, 9, 10, 11, 12, 13, 14] rfl rfl (fun s74 g75 => ?_) (fun s74 g75 => ?_)
        ·unfold F_spec_MatchOfDerivation_L3
         refine J_seq ?_
         refine J_sr ?_
         refine JM rfl rfl ?_
         refine JM rfl rfl ?_
         refine JL_q wn rfl (ex_len_rd 1 Tryz.underlying27 rfl rfl) ?_
         refine JL_q wn rfl (ex_lss rfl rfl) ?_
         refine JL_nt ?_
         refine J_if rfl (fun h76 => ?_) (fun h76 => ?_)
         ·refine J_skip ?_
          refine N_then ?_
          refine J_seq ?_
          refine J_block ?_
          refine J_region ?_
          refine JM rfl rfl ?_
          refine JM rfl rfl ?_
          refine JM rfl rfl ?_
          refine JL_bnd fun y77 hy78 => ?_
          refine JL_st wn rfl (st_index 1 Tryz.underlying27 ti_2 rfl rfl rfl hy78) (fun q79 => ?_)
          refine JL_st wn rfl (st_load_pt_o 0 (opens_int _) ti_2 rfl rfl) (fun _ => ?_)
          refine JL_q wn rfl (ex_add rfl rfl) ?_
          refine JL_st wn rfl (st_buildSlice (vs := [.int .i64 (w64 (1 + y77))]) ([(w64 (1 + y77))] : List Int) Tryz.underlying27 ti_2 zi_2 rfl rfl rfl (fun w hh => ⟨(Rd.mk_int _ _ _), trivial⟩)) (fun b81 => ?_)
          refine JL_bnd fun z82 hz83 => ?_
          refine JL_st wn rfl (st_append 2 Tryz.underlying27 ti_2 zi_2 rfl bi_2 rfl rfl rfl rfl (fun w hh => hh.src_ow 0 rfl) hz83) (fun v84 => ?_)
          refine JA rfl rfl ?_
          refine JL_nil ?_
          refine N_block ?_
          refine N_then ?_
          refine J_region ?_
          refine JM rfl rfl ?_
          refine JL_q wn rfl (ex_add rfl rfl) ?_
          refine JA rfl rfl ?_
          refine JL_nil ?_
          exact N_next' v84 ⟨rfl, rfl, rfl, trivial⟩ [2, 3, 4, 5, 6, 7, 8, 9] rfl rfl
         ·refine J_exit ?_
          refine N_then_exit ?_
          exact N_break' g75 ⟨rfl, rfl, rfl, trivial⟩ [0, 1, 2, 3, 4, 5, 6, 7] rfl rfl
        ·refine N_then ?_
         refine J_sr ?_
         refine JM rfl rfl ?_
         refine JA rfl rfl ?_
         refine JL_nt ?_
         refine J_ret ?_
         refine N_inl1 hK73 rfl (rv_tmp rfl) ?_
         refine JA rfl rfl ?_
         refine JL_nt ?_
         refine J_sr ?_
         refine JM rfl rfl ?_
         refine JL_st wn rfl (st_buildSlice (vs := [.int .i64 7]) ([7] : List Int) Tryz.underlying27 ti_2 zi_2 rfl rfl rfl (fun w hh => ⟨(Rd.mk_int _ _ _), trivial⟩)) (fun b85 => ?_)
         refine JL_bnd fun z86 hz87 => ?_
         refine JL_st wn rfl (st_append 1 Tryz.underlying27 ti_2 zi_2 rfl bi_2 rfl rfl rfl rfl (fun w hh => hh.src_ow 0 rfl) hz87) (fun v88 => ?_)
         refine JA rfl rfl ?_
         refine JL_nt ?_
         refine J_seq ?_
         refine J_draw [] (by kernel_rfl) ?_
         refine JP_take (i := 0) [0, 1, 2, 3, 4, 5, 6, 7, 8] [] rfl (by kernel_rfl) (by kernel_rfl) (by kernel_rfl) rfl rfl wn rfl (ex_move rfl) ?_
         refine JP_take (i := 1) [0, 1, 2, 3, 4, 5, 6, 7, 8] [] rfl (by kernel_rfl) (by kernel_rfl) (by kernel_rfl) rfl rfl wn rfl (ex_move rfl) ?_
         refine JP_take (i := 2) [0, 1, 2, 3, 4, 5, 6, 7, 8] [] rfl (by kernel_rfl) (by kernel_rfl) (by kernel_rfl) rfl rfl wn rfl (ex_move rfl) ?_
         refine JP_take (i := 3) [0, 1, 2, 3, 4, 5, 6, 7, 8] [] rfl (by kernel_rfl) (by kernel_rfl) (by kernel_rfl) rfl rfl wn rfl (ex_nilCheck_pt 8 rfl rfl) ?_
         refine JP_sq (i := 4) [] rfl (by kernel_rfl) (by kernel_rfl) (by kernel_rfl) rfl wn rfl (sq_field_pt 8 (GRewrite.at_From _) fi_88_0 rfl rfl rfl) (fun q89 => ?_)
         refine JP_sq (i := 5) [] rfl (by kernel_rfl) (by kernel_rfl) (by kernel_rfl) rfl wn rfl (sq_load_pt_o 0 (opens_sl _) ti_27 rfl rfl) (fun v90 => ?_)
         refine JP_take (i := 6) [0, 1, 2, 3, 4, 5, 6, 7, 8, 9, 10] [] rfl (by kernel_rfl) (by kernel_rfl) (by kernel_rfl) rfl rfl wn rfl (ex_len_rd 0 Tryz.underlying27 rfl rfl) ?_
         refine JP_take (i := 7) [0, 1, 2, 3, 4, 5, 6, 7, 8, 9, 10] [] rfl (by kernel_rfl) (by kernel_rfl) (by kernel_rfl) rfl rfl wn rfl (ex_move rfl) ?_
         refine JP_take (i := 8) [0, 1, 2, 3, 4, 5, 6, 7, 8, 9, 10] [] rfl (by kernel_rfl) (by kernel_rfl) (by kernel_rfl) rfl rfl wn rfl (ex_nilCheck_pt 10 rfl rfl) ?_
         refine JP_sq (i := 9) [] rfl (by kernel_rfl) (by kernel_rfl) (by kernel_rfl) rfl wn rfl (sq_field_pt 10 (GRewrite.at_To _) fi_88_1 rfl rfl rfl) (fun q91 => ?_)
         refine JP_sq (i := 10) [] rfl (by kernel_rfl) (by kernel_rfl) (by kernel_rfl) rfl wn rfl (sq_load_pt_o 0 (opens_sl _) ti_27 rfl rfl) (fun v92 => ?_)
         refine JP_go [0, 1, 2, 3, 4, 5, 6, 7, 8, 9, 10, 11, 12] [] rfl rfl rfl (fun w94 h1_95 hp93 => ?_)
         refine JD_bnd fun r96 hr97 => ?_
         refine JD_one (i := 11) (by kernel_rfl) ?_
         refine JO_call rfl wn rfl Tryz.call56 rfl (Ca_self (fun _ => rfl) fun w hh => c_spec_l03Put _ w (fun _ hk => hk.elim) _ _ (hh.rd0 10 rfl) _ _ _ _ (hh.rd0 0 rfl) _ hr97) (fun x98 => ?_)
         refine JD_take (i := 12) hp93 rfl (by kernel_rfl) (by kernel_rfl) (by kernel_rfl) wn rfl (ex_assign rfl) ?_
         refine JD_done (by kernel_rfl) ?_
         refine N_then ?_
         refine J_sr ?_
         refine JM rfl rfl ?_
         refine JL_q wn rfl (ex_len_ow 6 Tryz.underlying27 rfl rfl) ?_
         refine JL_q wn rfl (ex_gtr rfl rfl) ?_
         refine JL_nt ?_
         refine J_if rfl (fun h99 => ?_) (fun h99 => ?_)
         ·refine J_sr ?_
          refine JA rfl rfl ?_
          refine JA rfl rfl ?_
          refine JL_nt ?_
          refine J_ret ?_
          refine N_block_ret ?_
          refine N_then_ret ?_
          refine N_round_ret ?_
          refine N_then_ret ?_
          refine N_ctx (fun w hh => SH.ow_nil (α := Int) 2 hh) ?_
          exact N_ret2 rfl (rv_tmp rfl) (rv_tmp rfl) (fun w hh => ⟨(.slice none 0 0 : Value), rfl, hh.sel [0] rfl⟩)
         ·refine J_skip ?_
          refine N_block ?_
          refine N_then ?_
          refine J_region ?_
          refine JM rfl rfl ?_
          refine JL_q wn rfl (ex_add rfl rfl) ?_
          refine JA rfl rfl ?_
          refine JL_nil ?_
          exact N_next' (v88, x98) ⟨rfl, rfl, rfl, rfl, rfl, rfl, trivial⟩ [8, 9, 10, 6, 0] rfl rfl
      ·refine J_exit ?_
       refine N_then_exit ?_
       exact N_break' (g20_0, g20_1) ⟨rfl, rfl, rfl, rfl, rfl, rfl, trivial⟩ [0, 1, 2, 3, 4] rfl rfl
     ·obtain ⟨g20_0, g20_1⟩ := g20
      refine N_then ?_
      refine J_sr ?_
      refine JM rfl rfl ?_
      refine JM rfl rfl ?_
      refine JL_q wn rfl (ex_od 2 rfl (ex_len_ow 2 Tryz.underlying47 rfl rfl)) ?_
      refine JL_q wn rfl (ex_sub rfl rfl) ?_
      refine JL_st wn rfl (st_buildSlice (vs := [.int .i64 (w64 ((r4.1.length : Int) - 1))]) ([(w64 ((r4.1.length : Int) - 1))] : List Int) Tryz.underlying27 ti_2 zi_2 rfl rfl rfl (fun w hh => ⟨(Rd.mk_int _ _ _), trivial⟩)) (fun b100 => ?_)
      refine JL_bnd fun z101 hz102 => ?_
      refine JL_st wn rfl (st_append 4 Tryz.underlying27 ti_2 zi_2 rfl bi_2 rfl rfl rfl rfl (fun w hh => hh.src_ow 0 rfl) hz102) (fun v103 => ?_)
      refine JA rfl rfl ?_
      refine JL_nt ?_
      refine J_seq ?_
      refine J_sr ?_
      refine JM rfl rfl ?_
      refine JL_q wn rfl (ex_len_ow 4 Tryz.underlying27 rfl rfl) ?_
      refine JL_q wn rfl (ex_gtr rfl rfl) ?_
      refine JL_nt ?_
      refine J_if rfl (fun h104 => ?_) (fun h104 => ?_)
      ·refine J_sr ?_
       refine JA rfl rfl ?_
       refine JA rfl rfl ?_
       refine JL_nt ?_
       refine J_ret ?_
       refine N_then_ret ?_
       refine N_ctx (fun w hh => SH.ow_nil (α := Int) 2 hh) ?_
       exact N_ret2 rfl (rv_tmp rfl) (rv_tmp rfl) (fun w hh => ⟨(.slice none 0 0 : Value), rfl, hh.sel [0] rfl⟩)
      ·refine J_skip ?_
       refine N_then ?_
       refine J_sr ?_
       refine JM rfl rfl ?_
       refine JA rfl rfl ?_
       refine JA rfl rfl ?_
       refine JL_nt ?_
       refine J_ret ?_
       exact N_ret2 rfl (rv_tmp rfl) (rv_tmp rfl) (fun w hh => ⟨v103, rfl, hh.sel [4] rfl⟩)
set_option maxHeartbeats 40000000 in
theorem c_impl_spread (A : Nat → Prop) (w : World) (hA : ∀ k, A k → k < w.heap.size) (v0_ : Value) (p0 : (List Int)) (hp0 : Rd A w v0_ p0) (p1 : Bool) (r : (List Int)) (hr : F_impl_spread p0 p1 = some r) :
  Con Tryz.prog 104 [v0_, .bool p1] A w (fun x_ : Value => x_) (fun x_ => [.ow 2 x_ r]) := by
 refine Con_of (v := fun (r : (List Int)) (x_ : Value) => x_) (fs := fun r x_ => [.ow 2 x_ r]) Tryz.func104 rfl Tryz.ntmps104 rfl ((SH.start hA).start_rd rfl hp0) rfl ?_ hr
 unfold F_impl_spread
 refine J_sr ?_
 refine JA rfl rfl ?_
 refine JL_nt ?_
 refine J_sr ?_
 refine JL_st wn rfl (st_buildSlice (vs := []) ([] : List Int) Tryz.underlying27 ti_2 zi_2 rfl rfl rfl (fun w hh => trivial)) (fun b1 => ?_)
 refine JA rfl rfl ?_
 refine JL_nt ?_
 refine J_seq ?_
 refine J_sr ?_
 refine JM rfl rfl ?_
 refine JL_q wn rfl (ex_len_rd 1 Tryz.underlying27 rfl rfl) ?_
 refine JM rfl rfl ?_
 refine JL_nt ?_
 refine J_loop' (S := (List Int) × Int) (G := Value) (F_impl_spread_L1 p0 p1) (fun s2 g3 => [(1, .bool p1), (5, g3), (9, v0_), (10, .int .i64 (p0.length : Int)), (11, .int .i64 s2.2)]) (fun s2 g3 => [.ow 2 g3 s2.1, .rd v0_ p0]) (([] : List Int), 0) (.slice (some ⟨b1, 0, none⟩) 0 0) ⟨rfl, rfl, rfl, rfl, rfl, trivial⟩ [0, 1] rfl rfl (fun s2 g3 => ?_) (fun s2 g3 => ?_)
 ·unfold F_impl_spread_L1
  refine J_sr ?_
  refine JL_q wn rfl (ex_lss rfl rfl) ?_
  refine JL_nt ?_
  refine J_seq ?_
  refine J_if rfl (fun h4 => ?_) (fun h4 => ?_)
  ·refine J_skip ?_
   refine N_then ?_
   refine J_seq ?_
   refine J_block ?_
   refine J_sr ?_
   refine JL_bnd fun y5 hy6 => ?_
   refine JL_st wn rfl (st_index 1 Tryz.underlying27 ti_2 rfl rfl rfl hy6) (fun q7 => ?_)
   refine JL_st wn rfl (st_load_pt_o 0 (opens_int _) ti_2 rfl rfl) (fun _ => ?_)
   refine JA rfl rfl ?_
   refine JL_nt ?_
   refine J_sr ?_
   refine JM rfl rfl ?_
   refine JL_nt ?_
   refine J_if rfl (fun h9 => ?_) (fun h9 => ?_)
   ·refine J_region ?_
    refine JM rfl rfl ?_
    refine JM rfl rfl ?_
    refine JL_st wn rfl (st_buildSlice (vs := [.int .i64 y5, .int .i64 9]) ([y5, 9] : List Int) Tryz.underlying27 ti_2 zi_2 rfl rfl rfl (fun w hh => ⟨(Rd.mk_int _ _ _), (Rd.mk_int _ _ _), trivial⟩)) (fun b10 => ?_)
    refine JL_bnd fun z11 hz12 => ?_
    refine JL_st wn rfl (st_append 2 Tryz.underlying27 ti_2 zi_2 rfl bi_2 rfl rfl rfl rfl (fun w hh => hh.src_ow 0 rfl) hz12) (fun v13 => ?_)
    refine JA rfl rfl ?_
    refine JL_nil ?_
    refine N_block ?_
    refine N_then ?_
    refine J_region ?_
    refine JL_q wn rfl (ex_add rfl rfl) ?_
    refine JM rfl rfl ?_
    refine JL_nil ?_
    exact N_next' v13 ⟨rfl, rfl, rfl, rfl, rfl, trivial⟩ [2, 3] rfl rfl
   ·refine J_region ?_
    refine JM rfl rfl ?_
    refine JM rfl rfl ?_
    refine JL_st wn rfl (st_buildSlice (vs := [.int .i64 9, .int .i64 y5]) ([9, y5] : List Int) Tryz.underlying27 ti_2 zi_2 rfl rfl rfl (fun w hh => ⟨(Rd.mk_int _ _ _), (Rd.mk_int _ _ _), trivial⟩)) (fun b14 => ?_)
    refine JL_bnd fun z15 hz16 => ?_
    refine JL_st wn rfl (st_append 2 Tryz.underlying27 ti_2 zi_2 rfl bi_2 rfl rfl rfl rfl (fun w hh => hh.src_ow 0 rfl) hz16) (fun v17 => ?_)
    refine JA rfl rfl ?_
    refine JL_nil ?_
    refine N_block ?_
    refine N_then ?_
    refine J_region ?_
    refine JL_q wn rfl (ex_add rfl rfl) ?_
    refine JM rfl rfl ?_
    refine JL_nil ?_
    exact N_next' v17 ⟨rfl, rfl, rfl, rfl, rfl, trivial⟩ [2, 3] rfl rfl
  ·refine J_exit ?_
   refine N_then_exit ?_
   exact N_break' g3 ⟨rfl, rfl, rfl, rfl, rfl, trivial⟩ [0, 1] rfl rfl
 ·refine N_then ?_
  refine J_sr ?_
  refine JM rfl rfl ?_
  refine JA rfl rfl ?_
  refine JL_nt ?_
  refine J_ret ?_
  exact N_ret1 rfl (rv_tmp rfl) (fun w hh => ⟨g3, rfl, hh.sel [0] rfl⟩)
end Go.Proofs.YtlepdmenejbleaaGreat
