/-
  Each function of the program computes what its plain function says: printed by program. No condition.
-/
import Derived.Test.YtgpimmdigeobbaaFn
import Derived.Test.YtgpimmdigeobbaaInf
import Derived.Test.YtgpimmdigeobbaaCon1
namespace Go.Proofs.Ytgpimmdigeobbaa
open Go Go.Tc Go.Fn
set_option linter.unusedVariables false
set_option maxHeartbeats 40000000 in
theorem c_spec_l27Symbols (A : Nat → Prop) (w : World) (hA : ∀ k, A k → k < w.heap.size) (v0_ : Value) (p0 : GMachine) (hp0 : RdA A w.heap.size w v0_ p0) (v1_ : Value) (p1 : (List Int)) (hp1 : Rd A w v1_ p1) (p2 : Int) (r : Bool) (hr : F_spec_l27Symbols p0 p1 p2 = some r) :
  Con Try.prog 72 [v0_, v1_, .int .i64 p2] A w (fun x_ : Unit => .bool r) (fun x_ => []) := by
 refine Con_of (v := fun (r : Bool) (x_ : Unit) => .bool r) (fs := fun r x_ => []) Try.func72 rfl Try.ntmps72 rfl (((SH.start hA).start_pa' rfl hp0).start_rd rfl hp1) rfl ?_ hr
 unfold F_spec_l27Symbols
 refine J_sr (JA rfl rfl (JL_nt (J_seq (J_sr (JA rfl rfl (JL_nt (J_loop' (S := Int) (G := Unit) (F_spec_l27Symbols_L1 p0 p1) (fun s1 _ => [(0, v0_), (1, v1_), (2, .int .i64 p2), (7, .int .i64 s1)]) (fun s1 _ => [.pa v0_ p0, .rd v1_ p1]) 0 () ⟨rfl, rfl, rfl, rfl, trivial⟩ [1, 0] rfl rfl (fun s1 g2 => ?_) (fun s1 g2 => ?_))))))))
 ·unfold F_spec_l27Symbols_L1
  refine J_seq (J_sr (JM rfl rfl (JM rfl rfl (JL_q wn rfl (ex_len_rd 1 Try.underlying29 rfl rfl) (JL_q wn rfl (ex_lss rfl rfl) (JL_nt (J_if rfl (fun h3 => ?_) (fun h3 => ?_))))))))
  ·refine J_skip (N_then (J_seq (J_block (J_seq (J_draw [] (by kernel_rfl) ?_)))))
   refine JP_take (i := 0) [0, 1] [] rfl (by kernel_rfl) (by kernel_rfl) (by kernel_rfl) rfl rfl wn rfl (ex_move rfl) ?_
   refine JP_take (i := 1) [0, 1] [] rfl (by kernel_rfl) (by kernel_rfl) (by kernel_rfl) rfl rfl wn rfl (ex_move rfl) ?_
   refine JP_bnd fun y4 hy5 => JP_sq (i := 2) [] rfl (by kernel_rfl) (by kernel_rfl) (by kernel_rfl) rfl wn rfl (sq_index 1 Try.underlying29 ti_2 rfl rfl rfl hy5) (fun q6 => ?_)
   refine JP_sq (i := 3) [] rfl (by kernel_rfl) (by kernel_rfl) (by kernel_rfl) rfl wn rfl (sq_load_pt_o 0 (opens_int _) ti_2 rfl rfl) (fun _ => ?_)
   refine JP_take (i := 4) [0, 1, 2] [] rfl (by kernel_rfl) (by kernel_rfl) (by kernel_rfl) rfl rfl wn rfl (ex_move rfl) ?_
   refine JP_take (i := 5) [0, 1, 2] [] rfl (by kernel_rfl) (by kernel_rfl) (by kernel_rfl) rfl rfl wn rfl (ex_nilCheck_pa 1 rfl rfl) ?_
   refine JP_sq (i := 6) [] rfl (by kernel_rfl) (by kernel_rfl) (by kernel_rfl) rfl wn rfl (sq_field_pa 1 (GMachine.at_Symbols _) fi_26_0 rfl rfl rfl) (fun q8 => ?_)
   refine JP_sq (i := 7) [] rfl (by kernel_rfl) (by kernel_rfl) (by kernel_rfl) rfl wn rfl (sq_load_pa_o 0 (opens_int _) ti_2 rfl rfl) (fun _ => ?_)
   refine JP_take (i := 8) [0, 1, 2, 3] [] rfl (by kernel_rfl) (by kernel_rfl) (by kernel_rfl) rfl rfl wn rfl (ex_sub rfl rfl) ?_
   refine JP_go [0, 1, 2, 3] [] rfl rfl rfl (fun w11 h1_12 hp10 => JD_bnd fun r13 hr14 => JD_one (i := 9) (by kernel_rfl) ?_)
   refine JO_call rfl wn rfl Try.call71 rfl (Ca_of0 fun w hh => c_spec_l00In _ w (fun _ hk => hk.elim) _ _ _ _ hr14) (fun _ => JD_take (i := 10) hp10 rfl (by kernel_rfl) (by kernel_rfl) (by kernel_rfl) wn rfl (ex_not rfl) ?_)
   refine JD_done (by kernel_rfl) ?_
   refine N_then (J_if rfl (fun h15 => ?_) (fun h15 => ?_))
   ·exact J_sr (JA rfl rfl (JL_nt (J_ret (N_block_ret (N_then_ret (N_round_ret (N_then_ret (N_ret1 rfl (rv_tmp rfl) (fun w hh => ⟨(), rfl, hh.sel [] rfl⟩)))))))))
   ·exact J_skip (N_block (N_then (J_region (JM rfl rfl (JL_q wn rfl (ex_add rfl rfl) (JA rfl rfl (JL_nil (N_next' () ⟨rfl, rfl, rfl, rfl, trivial⟩ [2, 3] rfl rfl))))))))
  ·exact J_exit (N_then_exit (N_break' () ⟨rfl, rfl, rfl, rfl, trivial⟩ [0, 1] rfl rfl))
 ·exact N_then (J_sr (JM rfl rfl (JL_q wn rfl (ex_len_rd 1 Try.underlying29 rfl rfl) (JM rfl rfl (JL_q wn rfl (ex_leq rfl rfl) (JA rfl rfl (JL_nt (J_ret (N_ret1 rfl (rv_tmp rfl) (fun w hh => ⟨(), rfl, hh.sel [] rfl⟩))))))))))
set_option maxHeartbeats 40000000 in
theorem c_spec_l27Is (A : Nat → Prop) (w : World) (hA : ∀ k, A k → k < w.heap.size) (v0_ : Value) (p0 : GMachine) (hp0 : RdA A w.heap.size w v0_ p0) (v1_ : Value) (p1 : GFormula) (hp1 : RdA A w.heap.size w v1_ p1) (r : Bool) (hr : F_spec_l27Is p0 p1 = some r) :
  Con Try.prog 40 [v0_, v1_] A w (fun x_ : Unit => .bool r) (fun x_ => []) := by
 refine Con_of (v := fun (r : Bool) (x_ : Unit) => .bool r) (fs := fun r x_ => []) Try.func40 rfl Try.ntmps40 rfl (((SH.start hA).start_pa' rfl hp0).start_pa' rfl hp1) rfl ?_ hr
 unfold F_spec_l27Is
 refine J_sr (JA rfl rfl (JL_nt (J_sr (JM rfl rfl (JL_q wn rfl (ex_nilCheck_pa 0 rfl rfl) (JL_st wn rfl (st_field_pa 0 (GFormula.at_Repeats _) fi_31_4 rfl rfl rfl) (fun q1 => JL_st wn rfl (st_load_pa_o 0 (opens_sl _) ti_28 rfl rfl) (fun v2 => JL_q wn rfl (ex_len_rd 0 Try.underlying28 rfl rfl) (JA rfl rfl (JL_nt (J_seq (J_cut' (S' := Unit) (G' := Unit) (fun _ _ => [(0, v0_), (1, v1_), (5, .int .i64 (p1.Repeats.length : Int))]) (fun _ _ => [.pa v0_ p0, .pa v1_ p1]) ?_ (fun s3 g4 => ?_)))))))))))))
 ·refine J_seq (J_draw [] (by kernel_rfl) ?_)
  refine JP_take (i := 0) [0, 1, 2, 3] [] rfl (by kernel_rfl) (by kernel_rfl) (by kernel_rfl) rfl rfl wn rfl (ex_move rfl) ?_
  refine JP_take (i := 1) [0, 1, 2, 3] [] rfl (by kernel_rfl) (by kernel_rfl) (by kernel_rfl) rfl rfl wn rfl (ex_nilCheck_pa 2 rfl rfl) ?_
  refine JP_sq (i := 2) [] rfl (by kernel_rfl) (by kernel_rfl) (by kernel_rfl) rfl wn rfl (sq_field_pa 2 (GFormula.at_State _) fi_31_0 rfl rfl rfl) (fun q5 => ?_)
  refine JP_sq (i := 3) [] rfl (by kernel_rfl) (by kernel_rfl) (by kernel_rfl) rfl wn rfl (sq_load_pa_o 0 (opens_int _) ti_2 rfl rfl) (fun _ => ?_)
  refine JP_take (i := 4) [0, 1, 2, 3, 4] [] rfl (by kernel_rfl) (by kernel_rfl) (by kernel_rfl) rfl rfl wn rfl (ex_move rfl) ?_
  refine JP_take (i := 5) [0, 1, 2, 3, 4] [] rfl (by kernel_rfl) (by kernel_rfl) (by kernel_rfl) rfl rfl wn rfl (ex_nilCheck_pa 4 rfl rfl) ?_
  refine JP_sq (i := 6) [] rfl (by kernel_rfl) (by kernel_rfl) (by kernel_rfl) rfl wn rfl (sq_field_pa 4 (GMachine.at_States _) fi_26_1 rfl rfl rfl) (fun q7 => ?_)
  refine JP_sq (i := 7) [] rfl (by kernel_rfl) (by kernel_rfl) (by kernel_rfl) rfl wn rfl (sq_load_pa_o 0 (opens_int _) ti_2 rfl rfl) (fun _ => ?_)
  refine JP_take (i := 8) [0, 1, 2, 3, 4, 5] [] rfl (by kernel_rfl) (by kernel_rfl) (by kernel_rfl) rfl rfl wn rfl (ex_sub rfl rfl) ?_
  refine JP_go [0, 1, 2, 3, 4, 5] [] rfl rfl rfl (fun w10 h1_11 hp9 => JD_bnd fun r12 hr13 => JD_one (i := 9) (by kernel_rfl) ?_)
  refine JO_call rfl wn rfl Try.call71 rfl (Ca_of0 fun w hh => c_spec_l00In _ w (fun _ hk => hk.elim) _ _ _ _ hr13) (fun _ => JD_take (i := 10) hp9 rfl (by kernel_rfl) (by kernel_rfl) (by kernel_rfl) wn rfl (ex_not rfl) ?_)
  refine JD_take (i := 11) hp9 rfl (by kernel_rfl) (by kernel_rfl) (by kernel_rfl) wn rfl (ex_move rfl) ?_
  refine JD_cond (fun h14 => ?_) (fun h14 => ?_)
  ·refine JD_pass (i := 12) rfl (by kernel_rfl) (by kernel_rfl) (by kernel_rfl) rfl rfl h14 rfl ?_
   refine JD_pass (i := 13) rfl (by kernel_rfl) (by kernel_rfl) (by kernel_rfl) rfl rfl h14 rfl ?_
   refine JD_take (i := 14) hp9 rfl (by kernel_rfl) (by kernel_rfl) (by kernel_rfl) wn rfl (ex_pick_true rfl h14 rfl) ?_
   refine JD_take (i := 15) hp9 rfl (by kernel_rfl) (by kernel_rfl) (by kernel_rfl) wn rfl (ex_move rfl) ?_
   refine JD_pass (i := 16) rfl (by kernel_rfl) (by kernel_rfl) (by kernel_rfl) rfl rfl rfl rfl ?_
   refine JD_pass (i := 17) rfl (by kernel_rfl) (by kernel_rfl) (by kernel_rfl) rfl rfl rfl rfl ?_
   refine JD_take (i := 18) hp9 rfl (by kernel_rfl) (by kernel_rfl) (by kernel_rfl) wn rfl (ex_pick_true rfl rfl rfl) ?_
   refine JD_take (i := 19) hp9 rfl (by kernel_rfl) (by kernel_rfl) (by kernel_rfl) wn rfl (ex_move rfl) ?_
   refine JD_pass (i := 20) rfl (by kernel_rfl) (by kernel_rfl) (by kernel_rfl) rfl rfl rfl rfl ?_
   refine JD_pass (i := 21) rfl (by kernel_rfl) (by kernel_rfl) (by kernel_rfl) rfl rfl rfl rfl ?_
   refine JD_pass (i := 22) rfl (by kernel_rfl) (by kernel_rfl) (by kernel_rfl) rfl rfl rfl rfl ?_
   refine JD_pass (i := 23) rfl (by kernel_rfl) (by kernel_rfl) (by kernel_rfl) rfl rfl rfl rfl ?_
   refine JD_pass (i := 24) rfl (by kernel_rfl) (by kernel_rfl) (by kernel_rfl) rfl rfl rfl rfl ?_
   refine JD_pass (i := 25) rfl (by kernel_rfl) (by kernel_rfl) (by kernel_rfl) rfl rfl rfl rfl ?_
   refine JD_pass (i := 26) rfl (by kernel_rfl) (by kernel_rfl) (by kernel_rfl) rfl rfl rfl rfl ?_
   refine JD_pass (i := 27) rfl (by kernel_rfl) (by kernel_rfl) (by kernel_rfl) rfl rfl rfl rfl ?_
   refine JD_take (i := 28) hp9 rfl (by kernel_rfl) (by kernel_rfl) (by kernel_rfl) wn rfl (ex_pick_true rfl rfl rfl) ?_
   refine JD_take (i := 29) hp9 rfl (by kernel_rfl) (by kernel_rfl) (by kernel_rfl) wn rfl (ex_move rfl) ?_
   refine JD_pass (i := 30) rfl (by kernel_rfl) (by kernel_rfl) (by kernel_rfl) rfl rfl rfl rfl ?_
   refine JD_pass (i := 31) rfl (by kernel_rfl) (by kernel_rfl) (by kernel_rfl) rfl rfl rfl rfl ?_
   refine JD_pass (i := 32) rfl (by kernel_rfl) (by kernel_rfl) (by kernel_rfl) rfl rfl rfl rfl ?_
   refine JD_pass (i := 33) rfl (by kernel_rfl) (by kernel_rfl) (by kernel_rfl) rfl rfl rfl rfl ?_
   refine JD_pass (i := 34) rfl (by kernel_rfl) (by kernel_rfl) (by kernel_rfl) rfl rfl rfl rfl ?_
   refine JD_pass (i := 35) rfl (by kernel_rfl) (by kernel_rfl) (by kernel_rfl) rfl rfl rfl rfl ?_
   refine JD_pass (i := 36) rfl (by kernel_rfl) (by kernel_rfl) (by kernel_rfl) rfl rfl rfl rfl ?_
   refine JD_take (i := 37) hp9 rfl (by kernel_rfl) (by kernel_rfl) (by kernel_rfl) wn rfl (ex_pick_true rfl rfl rfl) ?_
   refine JD_take (i := 38) hp9 rfl (by kernel_rfl) (by kernel_rfl) (by kernel_rfl) wn rfl (ex_move rfl) ?_
   refine JD_pass (i := 39) rfl (by kernel_rfl) (by kernel_rfl) (by kernel_rfl) rfl rfl rfl rfl ?_
   refine JD_pass (i := 40) rfl (by kernel_rfl) (by kernel_rfl) (by kernel_rfl) rfl rfl rfl rfl ?_
   refine JD_pass (i := 41) rfl (by kernel_rfl) (by kernel_rfl) (by kernel_rfl) rfl rfl rfl rfl ?_
   refine JD_pass (i := 42) rfl (by kernel_rfl) (by kernel_rfl) (by kernel_rfl) rfl rfl rfl rfl ?_
   refine JD_pass (i := 43) rfl (by kernel_rfl) (by kernel_rfl) (by kernel_rfl) rfl rfl rfl rfl ?_
   refine JD_pass (i := 44) rfl (by kernel_rfl) (by kernel_rfl) (by kernel_rfl) rfl rfl rfl rfl ?_
   refine JD_pass (i := 45) rfl (by kernel_rfl) (by kernel_rfl) (by kernel_rfl) rfl rfl rfl rfl ?_
   refine JD_take (i := 46) hp9 rfl (by kernel_rfl) (by kernel_rfl) (by kernel_rfl) wn rfl (ex_pick_true rfl rfl rfl) ?_
   refine JD_done (by kernel_rfl) ?_
   exact N_then (J_if_true rfl rfl (J_sr (JA rfl rfl (JL_nt (J_ret (N_mid_ret (N_then_ret (N_ret1 rfl (rv_tmp rfl) (fun w hh => ⟨(), rfl, hh.sel [] rfl⟩)))))))))
  ·refine JD_take (i := 12) hp9 rfl (by kernel_rfl) (by kernel_rfl) (by kernel_rfl) (wants_some rfl rfl rfl h14) rfl (ex_move rfl) ?_
   refine JD_take (i := 13) hp9 rfl (by kernel_rfl) (by kernel_rfl) (by kernel_rfl) (wants_some rfl rfl rfl h14) rfl (ex_lss rfl rfl) ?_
   refine JD_take (i := 14) hp9 rfl (by kernel_rfl) (by kernel_rfl) (by kernel_rfl) wn rfl (ex_pick_false rfl h14 rfl) ?_
   refine JD_take (i := 15) hp9 rfl (by kernel_rfl) (by kernel_rfl) (by kernel_rfl) wn rfl (ex_move rfl) ?_
   refine JD_cond (fun h15 => ?_) (fun h15 => ?_)
   ·refine JD_pass (i := 16) rfl (by kernel_rfl) (by kernel_rfl) (by kernel_rfl) rfl rfl h15 rfl ?_
    refine JD_pass (i := 17) rfl (by kernel_rfl) (by kernel_rfl) (by kernel_rfl) rfl rfl h15 rfl ?_
    refine JD_take (i := 18) hp9 rfl (by kernel_rfl) (by kernel_rfl) (by kernel_rfl) wn rfl (ex_pick_true rfl h15 rfl) ?_
    refine JD_take (i := 19) hp9 rfl (by kernel_rfl) (by kernel_rfl) (by kernel_rfl) wn rfl (ex_move rfl) ?_
    refine JD_pass (i := 20) rfl (by kernel_rfl) (by kernel_rfl) (by kernel_rfl) rfl rfl rfl rfl ?_
    refine JD_pass (i := 21) rfl (by kernel_rfl) (by kernel_rfl) (by kernel_rfl) rfl rfl rfl rfl ?_
    refine JD_pass (i := 22) rfl (by kernel_rfl) (by kernel_rfl) (by kernel_rfl) rfl rfl rfl rfl ?_
    refine JD_pass (i := 23) rfl (by kernel_rfl) (by kernel_rfl) (by kernel_rfl) rfl rfl rfl rfl ?_
    refine JD_pass (i := 24) rfl (by kernel_rfl) (by kernel_rfl) (by kernel_rfl) rfl rfl rfl rfl ?_
    refine JD_pass (i := 25) rfl (by kernel_rfl) (by kernel_rfl) (by kernel_rfl) rfl rfl rfl rfl ?_
    refine JD_pass (i := 26) rfl (by kernel_rfl) (by kernel_rfl) (by kernel_rfl) rfl rfl rfl rfl ?_
    refine JD_pass (i := 27) rfl (by kernel_rfl) (by kernel_rfl) (by kernel_rfl) rfl rfl rfl rfl ?_
    refine JD_take (i := 28) hp9 rfl (by kernel_rfl) (by kernel_rfl) (by kernel_rfl) wn rfl (ex_pick_true rfl rfl rfl) ?_
    refine JD_take (i := 29) hp9 rfl (by kernel_rfl) (by kernel_rfl) (by kernel_rfl) wn rfl (ex_move rfl) ?_
    refine JD_pass (i := 30) rfl (by kernel_rfl) (by kernel_rfl) (by kernel_rfl) rfl rfl rfl rfl ?_
    refine JD_pass (i := 31) rfl (by kernel_rfl) (by kernel_rfl) (by kernel_rfl) rfl rfl rfl rfl ?_
    refine JD_pass (i := 32) rfl (by kernel_rfl) (by kernel_rfl) (by kernel_rfl) rfl rfl rfl rfl ?_
    refine JD_pass (i := 33) rfl (by kernel_rfl) (by kernel_rfl) (by kernel_rfl) rfl rfl rfl rfl ?_
    refine JD_pass (i := 34) rfl (by kernel_rfl) (by kernel_rfl) (by kernel_rfl) rfl rfl rfl rfl ?_
    refine JD_pass (i := 35) rfl (by kernel_rfl) (by kernel_rfl) (by kernel_rfl) rfl rfl rfl rfl ?_
    refine JD_pass (i := 36) rfl (by kernel_rfl) (by kernel_rfl) (by kernel_rfl) rfl rfl rfl rfl ?_
    refine JD_take (i := 37) hp9 rfl (by kernel_rfl) (by kernel_rfl) (by kernel_rfl) wn rfl (ex_pick_true rfl rfl rfl) ?_
    refine JD_take (i := 38) hp9 rfl (by kernel_rfl) (by kernel_rfl) (by kernel_rfl) wn rfl (ex_move rfl) ?_
    refine JD_pass (i := 39) rfl (by kernel_rfl) (by kernel_rfl) (by kernel_rfl) rfl rfl rfl rfl ?_
    refine JD_pass (i := 40) rfl (by kernel_rfl) (by kernel_rfl) (by kernel_rfl) rfl rfl rfl rfl ?_
    refine JD_pass (i := 41) rfl (by kernel_rfl) (by kernel_rfl) (by kernel_rfl) rfl rfl rfl rfl ?_
    refine JD_pass (i := 42) rfl (by kernel_rfl) (by kernel_rfl) (by kernel_rfl) rfl rfl rfl rfl ?_
    refine JD_pass (i := 43) rfl (by kernel_rfl) (by kernel_rfl) (by kernel_rfl) rfl rfl rfl rfl ?_
    refine JD_pass (i := 44) rfl (by kernel_rfl) (by kernel_rfl) (by kernel_rfl) rfl rfl rfl rfl ?_
    refine JD_pass (i := 45) rfl (by kernel_rfl) (by kernel_rfl) (by kernel_rfl) rfl rfl rfl rfl ?_
    refine JD_take (i := 46) hp9 rfl (by kernel_rfl) (by kernel_rfl) (by kernel_rfl) wn rfl (ex_pick_true rfl rfl rfl) ?_
    refine JD_done (by kernel_rfl) ?_
    exact N_then (J_if_true rfl rfl (J_sr (JA rfl rfl (JL_nt (J_ret (N_mid_ret (N_then_ret (N_ret1 rfl (rv_tmp rfl) (fun w hh => ⟨(), rfl, hh.sel [] rfl⟩)))))))))
   ·refine JD_take (i := 16) hp9 rfl (by kernel_rfl) (by kernel_rfl) (by kernel_rfl) (wants_some rfl rfl rfl h15) rfl (ex_move rfl) ?_
    refine JD_take (i := 17) hp9 rfl (by kernel_rfl) (by kernel_rfl) (by kernel_rfl) (wants_some rfl rfl rfl h15) rfl (ex_gtr rfl rfl) ?_
    refine JD_take (i := 18) hp9 rfl (by kernel_rfl) (by kernel_rfl) (by kernel_rfl) wn rfl (ex_pick_false rfl h15 rfl) ?_
    refine JD_take (i := 19) hp9 rfl (by kernel_rfl) (by kernel_rfl) (by kernel_rfl) wn rfl (ex_move rfl) ?_
    refine JD_cond (fun h16 => ?_) (fun h16 => ?_)
    ·refine JD_pass (i := 20) rfl (by kernel_rfl) (by kernel_rfl) (by kernel_rfl) rfl rfl h16 rfl ?_
     refine JD_pass (i := 21) rfl (by kernel_rfl) (by kernel_rfl) (by kernel_rfl) rfl rfl h16 rfl ?_
     refine JD_pass (i := 22) rfl (by kernel_rfl) (by kernel_rfl) (by kernel_rfl) rfl rfl h16 rfl ?_
     refine JD_pass (i := 23) rfl (by kernel_rfl) (by kernel_rfl) (by kernel_rfl) rfl rfl h16 rfl ?_
     refine JD_pass (i := 24) rfl (by kernel_rfl) (by kernel_rfl) (by kernel_rfl) rfl rfl h16 rfl ?_
     refine JD_pass (i := 25) rfl (by kernel_rfl) (by kernel_rfl) (by kernel_rfl) rfl rfl h16 rfl ?_
     refine JD_pass (i := 26) rfl (by kernel_rfl) (by kernel_rfl) (by kernel_rfl) rfl rfl h16 rfl ?_
     refine JD_pass (i := 27) rfl (by kernel_rfl) (by kernel_rfl) (by kernel_rfl) rfl rfl h16 rfl ?_
     refine JD_take (i := 28) hp9 rfl (by kernel_rfl) (by kernel_rfl) (by kernel_rfl) wn rfl (ex_pick_true rfl h16 rfl) ?_
     refine JD_take (i := 29) hp9 rfl (by kernel_rfl) (by kernel_rfl) (by kernel_rfl) wn rfl (ex_move rfl) ?_
     refine JD_pass (i := 30) rfl (by kernel_rfl) (by kernel_rfl) (by kernel_rfl) rfl rfl rfl rfl ?_
     refine JD_pass (i := 31) rfl (by kernel_rfl) (by kernel_rfl) (by kernel_rfl) rfl rfl rfl rfl ?_
     refine JD_pass (i := 32) rfl (by kernel_rfl) (by kernel_rfl) (by kernel_rfl) rfl rfl rfl rfl ?_
     refine JD_pass (i := 33) rfl (by kernel_rfl) (by kernel_rfl) (by kernel_rfl) rfl rfl rfl rfl ?_
     refine JD_pass (i := 34) rfl (by kernel_rfl) (by kernel_rfl) (by kernel_rfl) rfl rfl rfl rfl ?_
     refine JD_pass (i := 35) rfl (by kernel_rfl) (by kernel_rfl) (by kernel_rfl) rfl rfl rfl rfl ?_
     refine JD_pass (i := 36) rfl (by kernel_rfl) (by kernel_rfl) (by kernel_rfl) rfl rfl rfl rfl ?_
     refine JD_take (i := 37) hp9 rfl (by kernel_rfl) (by kernel_rfl) (by kernel_rfl) wn rfl (ex_pick_true rfl rfl rfl) ?_
     refine JD_take (i := 38) hp9 rfl (by kernel_rfl) (by kernel_rfl) (by kernel_rfl) wn rfl (ex_move rfl) ?_
     refine JD_pass (i := 39) rfl (by kernel_rfl) (by kernel_rfl) (by kernel_rfl) rfl rfl rfl rfl ?_
     refine JD_pass (i := 40) rfl (by kernel_rfl) (by kernel_rfl) (by kernel_rfl) rfl rfl rfl rfl ?_
     refine JD_pass (i := 41) rfl (by kernel_rfl) (by kernel_rfl) (by kernel_rfl) rfl rfl rfl rfl ?_
     refine JD_pass (i := 42) rfl (by kernel_rfl) (by kernel_rfl) (by kernel_rfl) rfl rfl rfl rfl ?_
     refine JD_pass (i := 43) rfl (by kernel_rfl) (by kernel_rfl) (by kernel_rfl) rfl rfl rfl rfl ?_
     refine JD_pass (i := 44) rfl (by kernel_rfl) (by kernel_rfl) (by kernel_rfl) rfl rfl rfl rfl ?_
     refine JD_pass (i := 45) rfl (by kernel_rfl) (by kernel_rfl) (by kernel_rfl) rfl rfl rfl rfl ?_
     refine JD_take (i := 46) hp9 rfl (by kernel_rfl) (by kernel_rfl) (by kernel_rfl) wn rfl (ex_pick_true rfl rfl rfl) ?_
     refine JD_done (by kernel_rfl) ?_
     exact N_then (J_if_true rfl rfl (J_sr (JA rfl rfl (JL_nt (J_ret (N_mid_ret (N_then_ret (N_ret1 rfl (rv_tmp rfl) (fun w hh => ⟨(), rfl, hh.sel [] rfl⟩)))))))))
    ·refine JD_take (i := 20) hp9 rfl (by kernel_rfl) (by kernel_rfl) (by kernel_rfl) (wants_some rfl rfl rfl h16) rfl (ex_move rfl) ?_
     refine JD_take (i := 21) hp9 rfl (by kernel_rfl) (by kernel_rfl) (by kernel_rfl) (wants_some rfl rfl rfl h16) rfl (ex_nilCheck_pa 4 rfl rfl) ?_
     refine JD_sq (i := 22) (fs := fun q17 => [.pa q17 p1.Walls]) [] h1_11 rfl rfl (by kernel_rfl) (by kernel_rfl) (by kernel_rfl) (wants_some rfl rfl rfl h16) rfl (sq_field_pa 4 (GFormula.at_Walls _) fi_31_3 rfl rfl rfl) (fun _ => rfl) (fun q17 h1_18 => ?_)
     refine JD_sq (i := 23) [] h1_18 rfl rfl (by kernel_rfl) (by kernel_rfl) (by kernel_rfl) (wants_some rfl rfl rfl h16) rfl (sq_load_pa_o 0 (opens_sl _) ti_28 rfl rfl) (fun _ => rfl) (fun v19 h1_20 => ?_)
     refine JD_take (i := 25) hp9 rfl (by kernel_rfl) (by kernel_rfl) (by kernel_rfl) (wants_some rfl rfl rfl h16) rfl (ex_move rfl) ?_
     refine JD_take (i := 26) hp9 rfl (by kernel_rfl) (by kernel_rfl) (by kernel_rfl) (wants_some rfl rfl rfl h16) rfl (ex_add rfl rfl) ?_
     refine JD_one (i := 24) (by kernel_rfl) ?_
     refine JO_q rfl (wants_some rfl rfl rfl h16) rfl (ex_len_rd 0 Try.underlying28 rfl rfl) (JD_take (i := 27) hp9 rfl (by kernel_rfl) (by kernel_rfl) (by kernel_rfl) (wants_some rfl rfl rfl h16) rfl (ex_neq rfl rfl) ?_)
     refine JD_take (i := 28) hp9 rfl (by kernel_rfl) (by kernel_rfl) (by kernel_rfl) wn rfl (ex_pick_false rfl h16 rfl) ?_
     refine JD_take (i := 29) hp9 rfl (by kernel_rfl) (by kernel_rfl) (by kernel_rfl) wn rfl (ex_move rfl) ?_
     refine JD_cond (fun h21 => ?_) (fun h21 => ?_)
     ·refine JD_pass (i := 30) rfl (by kernel_rfl) (by kernel_rfl) (by kernel_rfl) rfl rfl h21 rfl ?_
      refine JD_pass (i := 31) rfl (by kernel_rfl) (by kernel_rfl) (by kernel_rfl) rfl rfl h21 rfl ?_
      refine JD_pass (i := 32) rfl (by kernel_rfl) (by kernel_rfl) (by kernel_rfl) rfl rfl h21 rfl ?_
      refine JD_pass (i := 33) rfl (by kernel_rfl) (by kernel_rfl) (by kernel_rfl) rfl rfl h21 rfl ?_
      refine JD_pass (i := 34) rfl (by kernel_rfl) (by kernel_rfl) (by kernel_rfl) rfl rfl h21 rfl ?_
      refine JD_pass (i := 35) rfl (by kernel_rfl) (by kernel_rfl) (by kernel_rfl) rfl rfl h21 rfl ?_
      refine JD_pass (i := 36) rfl (by kernel_rfl) (by kernel_rfl) (by kernel_rfl) rfl rfl h21 rfl ?_
      refine JD_take (i := 37) hp9 rfl (by kernel_rfl) (by kernel_rfl) (by kernel_rfl) wn rfl (ex_pick_true rfl h21 rfl) ?_
      refine JD_take (i := 38) hp9 rfl (by kernel_rfl) (by kernel_rfl) (by kernel_rfl) wn rfl (ex_move rfl) ?_
      refine JD_pass (i := 39) rfl (by kernel_rfl) (by kernel_rfl) (by kernel_rfl) rfl rfl rfl rfl ?_
      refine JD_pass (i := 40) rfl (by kernel_rfl) (by kernel_rfl) (by kernel_rfl) rfl rfl rfl rfl ?_
      refine JD_pass (i := 41) rfl (by kernel_rfl) (by kernel_rfl) (by kernel_rfl) rfl rfl rfl rfl ?_
      refine JD_pass (i := 42) rfl (by kernel_rfl) (by kernel_rfl) (by kernel_rfl) rfl rfl rfl rfl ?_
      refine JD_pass (i := 43) rfl (by kernel_rfl) (by kernel_rfl) (by kernel_rfl) rfl rfl rfl rfl ?_
      refine JD_pass (i := 44) rfl (by kernel_rfl) (by kernel_rfl) (by kernel_rfl) rfl rfl rfl rfl ?_
      refine JD_pass (i := 45) rfl (by kernel_rfl) (by kernel_rfl) (by kernel_rfl) rfl rfl rfl rfl ?_
      refine JD_take (i := 46) hp9 rfl (by kernel_rfl) (by kernel_rfl) (by kernel_rfl) wn rfl (ex_pick_true rfl rfl rfl) ?_
      refine JD_done (by kernel_rfl) ?_
      exact N_then (J_if_true rfl rfl (J_sr (JA rfl rfl (JL_nt (J_ret (N_mid_ret (N_then_ret (N_ret1 rfl (rv_tmp rfl) (fun w hh => ⟨(), rfl, hh.sel [] rfl⟩)))))))))
     ·refine JD_take (i := 30) hp9 rfl (by kernel_rfl) (by kernel_rfl) (by kernel_rfl) (wants_some rfl rfl rfl h21) rfl (ex_move rfl) ?_
      refine JD_take (i := 31) hp9 rfl (by kernel_rfl) (by kernel_rfl) (by kernel_rfl) (wants_some rfl rfl rfl h21) rfl (ex_nilCheck_pa 4 rfl rfl) ?_
      refine JD_sq (i := 32) (fs := fun q22 => [.pa q22 p1.Offsets]) [] h1_20 rfl rfl (by kernel_rfl) (by kernel_rfl) (by kernel_rfl) (wants_some rfl rfl rfl h21) rfl (sq_field_pa 6 (GFormula.at_Offsets _) fi_31_5 rfl rfl rfl) (fun _ => rfl) (fun q22 h1_23 => ?_)
      refine JD_sq (i := 33) [] h1_23 rfl rfl (by kernel_rfl) (by kernel_rfl) (by kernel_rfl) (wants_some rfl rfl rfl h21) rfl (sq_load_pa_o 0 (opens_sl _) ti_29 rfl rfl) (fun _ => rfl) (fun v24 h1_25 => ?_)
      refine JD_take (i := 35) hp9 rfl (by kernel_rfl) (by kernel_rfl) (by kernel_rfl) (wants_some rfl rfl rfl h21) rfl (ex_move rfl) ?_
      refine JD_one (i := 34) (by kernel_rfl) ?_
      refine JO_q rfl (wants_some rfl rfl rfl h21) rfl (ex_len_rd 0 Try.underlying29 rfl rfl) (JD_take (i := 36) hp9 rfl (by kernel_rfl) (by kernel_rfl) (by kernel_rfl) (wants_some rfl rfl rfl h21) rfl (ex_neq rfl rfl) ?_)
      refine JD_take (i := 37) hp9 rfl (by kernel_rfl) (by kernel_rfl) (by kernel_rfl) wn rfl (ex_pick_false rfl h21 rfl) ?_
      refine JD_take (i := 38) hp9 rfl (by kernel_rfl) (by kernel_rfl) (by kernel_rfl) wn rfl (ex_move rfl) ?_
      refine JD_cond (fun h26 => ?_) (fun h26 => ?_)
      ·refine JD_pass (i := 39) rfl (by kernel_rfl) (by kernel_rfl) (by kernel_rfl) rfl rfl h26 rfl ?_
       refine JD_pass (i := 40) rfl (by kernel_rfl) (by kernel_rfl) (by kernel_rfl) rfl rfl h26 rfl ?_
       refine JD_pass (i := 41) rfl (by kernel_rfl) (by kernel_rfl) (by kernel_rfl) rfl rfl h26 rfl ?_
       refine JD_pass (i := 42) rfl (by kernel_rfl) (by kernel_rfl) (by kernel_rfl) rfl rfl h26 rfl ?_
       refine JD_pass (i := 43) rfl (by kernel_rfl) (by kernel_rfl) (by kernel_rfl) rfl rfl h26 rfl ?_
       refine JD_pass (i := 44) rfl (by kernel_rfl) (by kernel_rfl) (by kernel_rfl) rfl rfl h26 rfl ?_
       refine JD_pass (i := 45) rfl (by kernel_rfl) (by kernel_rfl) (by kernel_rfl) rfl rfl h26 rfl ?_
       refine JD_take (i := 46) hp9 rfl (by kernel_rfl) (by kernel_rfl) (by kernel_rfl) wn rfl (ex_pick_true rfl h26 rfl) ?_
       refine JD_done (by kernel_rfl) ?_
       exact N_then (J_if_true rfl rfl (J_sr (JA rfl rfl (JL_nt (J_ret (N_mid_ret (N_then_ret (N_ret1 rfl (rv_tmp rfl) (fun w hh => ⟨(), rfl, hh.sel [] rfl⟩)))))))))
      ·refine JD_take (i := 39) hp9 rfl (by kernel_rfl) (by kernel_rfl) (by kernel_rfl) (wants_some rfl rfl rfl h26) rfl (ex_move rfl) ?_
       refine JD_take (i := 40) hp9 rfl (by kernel_rfl) (by kernel_rfl) (by kernel_rfl) (wants_some rfl rfl rfl h26) rfl (ex_nilCheck_pa 4 rfl rfl) ?_
       refine JD_sq (i := 41) (fs := fun q27 => [.pa q27 p1.Head]) [] h1_25 rfl rfl (by kernel_rfl) (by kernel_rfl) (by kernel_rfl) (wants_some rfl rfl rfl h26) rfl (sq_field_pa 8 (GFormula.at_Head _) fi_31_1 rfl rfl rfl) (fun _ => rfl) (fun q27 h1_28 => ?_)
       refine JD_sq (i := 42) [] h1_28 rfl rfl (by kernel_rfl) (by kernel_rfl) (by kernel_rfl) (wants_some rfl rfl rfl h26) rfl (sq_load_pa_o 0 (opens_int _) ti_2 rfl rfl) (fun _ => rfl) (fun _ h1_30 => ?_)
       refine JD_take (i := 43) hp9 rfl (by kernel_rfl) (by kernel_rfl) (by kernel_rfl) (wants_some rfl rfl rfl h26) rfl (ex_move rfl) ?_
       refine JD_bnd fun r31 hr32 => JD_one (i := 44) (by kernel_rfl) ?_
       refine JO_call rfl (wants_some rfl rfl rfl h26) rfl Try.call71 rfl (Ca_of0 fun w hh => c_spec_l00In _ w (fun _ hk => hk.elim) _ _ _ _ hr32) (fun _ => JD_take (i := 45) hp9 rfl (by kernel_rfl) (by kernel_rfl) (by kernel_rfl) (wants_some rfl rfl rfl h26) rfl (ex_not rfl) ?_)
       refine JD_take (i := 46) hp9 rfl (by kernel_rfl) (by kernel_rfl) (by kernel_rfl) wn rfl (ex_pick_false rfl h26 rfl) ?_
       refine JD_done (by kernel_rfl) ?_
       refine N_then (J_if rfl (fun h33 => ?_) (fun h33 => ?_))
       ·exact J_sr (JA rfl rfl (JL_nt (J_ret (N_mid_ret (N_then_ret (N_ret1 rfl (rv_tmp rfl) (fun w hh => ⟨(), rfl, hh.sel [] rfl⟩)))))))
       ·exact J_skip (N_meet' () ⟨rfl, rfl, rfl, trivial⟩ [10, 9] rfl rfl)
 ·refine N_then (J_seq (J_sr (JA rfl rfl (JL_nt (J_loop' (S := Int) (G := Unit) (F_spec_l27Is_L1 p0 p1) (fun s34 _ => [(0, v0_), (1, v1_), (5, .int .i64 (p1.Repeats.length : Int)), (6, .int .i64 s34)]) (fun s34 _ => [.pa v0_ p0, .pa v1_ p1]) 0 () ⟨rfl, rfl, rfl, rfl, trivial⟩ [0, 1] rfl rfl (fun s34 g35 => ?_) (fun s34 g35 => ?_))))))
  ·unfold F_spec_l27Is_L1
   refine J_seq (J_sr (JM rfl rfl (JM rfl rfl (JL_q wn rfl (ex_leq rfl rfl) (JL_nt (J_if rfl (fun h36 => ?_) (fun h36 => ?_)))))))
   ·refine J_skip (N_then (J_seq (J_block (J_sr (JM rfl rfl (JM rfl rfl (JL_q wn rfl (ex_nilCheck_pa 1 rfl rfl) (JL_st wn rfl (st_field_pa 1 (GFormula.at_Walls _) fi_31_3 rfl rfl rfl) (fun q37 => JL_st wn rfl (st_load_pa_o 0 (opens_sl _) ti_28 rfl rfl) (fun v38 => JM rfl rfl (JL_bnd fun y39 hy40 => JL_st wn rfl (st_index 0 Try.underlying28 ti_29 rfl rfl rfl hy40) (fun q41 => JL_st wn rfl (st_load_pt_o 0 (opens_sl _) ti_29 rfl rfl) (fun v42 => JL_bnd fun r43 hr44 => JL_call wn rfl Try.call72 rfl (Ca_of0 fun w hh => c_spec_l27Symbols _ w (fun _ hk => hk.elim) _ _ (hh.pa0 4 rfl) _ _ (hh.rd0 0 rfl) _ _ hr44) (fun _ => JL_q wn rfl (ex_not rfl) (JL_nt (J_if rfl (fun h45 => ?_) (fun h45 => ?_)))))))))))))))))
    ·exact J_sr (JA rfl rfl (JL_nt (J_ret (N_block_ret (N_then_ret (N_round_ret (N_then_ret (N_ret1 rfl (rv_tmp rfl) (fun w hh => ⟨(), rfl, hh.sel [] rfl⟩)))))))))
    ·exact J_skip (N_block (N_then (J_region (JM rfl rfl (JL_q wn rfl (ex_add rfl rfl) (JA rfl rfl (JL_nil (N_next' () ⟨rfl, rfl, rfl, rfl, trivial⟩ [4, 5] rfl rfl))))))))
   ·exact J_exit (N_then_exit (N_break' () ⟨rfl, rfl, rfl, rfl, trivial⟩ [0, 1] rfl rfl))
  ·refine N_then (J_seq (J_sr (JA rfl rfl (JL_nt (J_loop' (S := Int) (G := Unit) (F_spec_l27Is_L2 p0 p1) (fun s46 _ => [(0, v0_), (1, v1_), (5, .int .i64 (p1.Repeats.length : Int)), (7, .int .i64 s46)]) (fun s46 _ => [.pa v0_ p0, .pa v1_ p1]) 0 () ⟨rfl, rfl, rfl, rfl, trivial⟩ [0, 1] rfl rfl (fun s46 g47 => ?_) (fun s46 g47 => ?_))))))
   ·unfold F_spec_l27Is_L2
    refine J_seq (J_sr (JM rfl rfl (JM rfl rfl (JL_q wn rfl (ex_lss rfl rfl) (JL_nt (J_if rfl (fun h48 => ?_) (fun h48 => ?_)))))))
    ·refine J_skip (N_then (J_seq (J_block (J_sr (JM rfl rfl (JL_q wn rfl (ex_nilCheck_pa 1 rfl rfl) (JL_st wn rfl (st_field_pa 1 (GFormula.at_Repeats _) fi_31_4 rfl rfl rfl) (fun q49 => JL_st wn rfl (st_load_pa_o 0 (opens_sl _) ti_28 rfl rfl) (fun v50 => JM rfl rfl (JL_bnd fun y51 hy52 => JL_st wn rfl (st_index 0 Try.underlying28 ti_29 rfl rfl rfl hy52) (fun q53 => JL_st wn rfl (st_load_pt_o 0 (opens_sl _) ti_29 rfl rfl) (fun v54 => JL_q wn rfl (ex_len_rd 0 Try.underlying29 rfl rfl) (JL_q wn rfl (ex_eql rfl rfl) (JM rfl rfl (JL_cond (fun h55 => ?_) (fun h55 => ?_))))))))))))))))
     ·refine JL_passed rfl rfl rfl h55 (JL_passed rfl rfl rfl h55 (JL_passed rfl rfl rfl h55 (JL_passed rfl rfl rfl h55 (JL_passed rfl rfl rfl h55 (JL_passed rfl rfl rfl h55 (JL_passed rfl rfl rfl h55 (JL_passed rfl rfl rfl h55 (JL_passed rfl rfl rfl h55 (JL_passed rfl rfl rfl h55 (JL_q wn rfl (ex_pick_true rfl h55 rfl) (JM rfl rfl (JL_passed rfl rfl rfl rfl (JL_passed rfl rfl rfl rfl (JL_passed rfl rfl rfl rfl (JL_passed rfl rfl rfl rfl (JL_passed rfl rfl rfl rfl (JL_passed rfl rfl rfl rfl (JL_passed rfl rfl rfl rfl (JL_passed rfl rfl rfl rfl (JL_passed rfl rfl rfl rfl (JL_q wn rfl (ex_pick_true rfl rfl rfl) (JL_nt (J_if_true rfl rfl ?_)))))))))))))))))))))))
      exact J_sr (JA rfl rfl (JL_nt (J_ret (N_block_ret (N_then_ret (N_round_ret (N_then_ret (N_ret1 rfl (rv_tmp rfl) (fun w hh => ⟨(), rfl, hh.sel [] rfl⟩)))))))))
     ·refine JL_q (wants_some rfl rfl rfl h55) rfl (ex_move rfl) (JL_q (wants_some rfl rfl rfl h55) rfl (ex_move rfl) (JL_q (wants_some rfl rfl rfl h55) rfl (ex_nilCheck_pa 5 rfl rfl) (JL_st (wants_some rfl rfl rfl h55) rfl (st_field_pa 5 (GFormula.at_Repeats _) fi_31_4 rfl rfl rfl) (fun q56 => JL_st (wants_some rfl rfl rfl h55) rfl (st_load_pa_o 0 (opens_sl _) ti_28 rfl rfl) (fun v57 => JL_q (wants_some rfl rfl rfl h55) rfl (ex_move rfl) (JL_bnd fun y58 hy59 => JL_st (wants_some rfl rfl rfl h55) rfl (st_index 0 Try.underlying28 ti_29 rfl rfl rfl hy59) (fun q60 => JL_st (wants_some rfl rfl rfl h55) rfl (st_load_pt_o 0 (opens_sl _) ti_29 rfl rfl) (fun v61 => JL_bnd fun r62 hr63 => JL_call (wants_some rfl rfl rfl h55) rfl Try.call72 rfl (Ca_of0 fun w hh => c_spec_l27Symbols _ w (fun _ hk => hk.elim) _ _ (hh.pa0 8 rfl) _ _ (hh.rd0 0 rfl) _ _ hr63) (fun _ => JL_q (wants_some rfl rfl rfl h55) rfl (ex_not rfl) (JL_q wn rfl (ex_pick_false rfl h55 rfl) (JM rfl rfl (JL_cond (fun h64 => ?_) (fun h64 => ?_)))))))))))))
      ·exact JL_passed rfl rfl rfl h64 (JL_passed rfl rfl rfl h64 (JL_passed rfl rfl rfl h64 (JL_passed rfl rfl rfl h64 (JL_passed rfl rfl rfl h64 (JL_passed rfl rfl rfl h64 (JL_passed rfl rfl rfl h64 (JL_passed rfl rfl rfl h64 (JL_passed rfl rfl rfl h64 (JL_q wn rfl (ex_pick_true rfl h64 rfl) (JL_nt (J_if_true rfl rfl (J_sr (JA rfl rfl (JL_nt (J_ret (N_block_ret (N_then_ret (N_round_ret (N_then_ret (N_ret1 rfl (rv_tmp rfl) (fun w hh => ⟨(), rfl, hh.sel [] rfl⟩)))))))))))))))))))))
      ·refine JL_q (wants_some rfl rfl rfl h64) rfl (ex_move rfl) (JL_q (wants_some rfl rfl rfl h64) rfl (ex_nilCheck_pa 9 rfl rfl) (JL_st (wants_some rfl rfl rfl h64) rfl (st_field_pa 9 (GFormula.at_Offsets _) fi_31_5 rfl rfl rfl) (fun q65 => JL_st (wants_some rfl rfl rfl h64) rfl (st_load_pa_o 0 (opens_sl _) ti_29 rfl rfl) (fun v66 => JL_q (wants_some rfl rfl rfl h64) rfl (ex_move rfl) (JL_bnd fun y67 hy68 => JL_st (wants_some rfl rfl rfl h64) rfl (st_index 0 Try.underlying29 ti_2 rfl rfl rfl hy68) (fun q69 => JL_st (wants_some rfl rfl rfl h64) rfl (st_load_pt_o 0 (opens_int _) ti_2 rfl rfl) (fun _ => JL_bnd fun r71 hr72 => JL_call (wants_some rfl rfl rfl h64) rfl Try.call71 rfl (Ca_of0 fun w hh => c_spec_l00In _ w (fun _ hk => hk.elim) _ _ _ _ hr72) (fun _ => JL_q (wants_some rfl rfl rfl h64) rfl (ex_not rfl) (JL_q wn rfl (ex_pick_false rfl h64 rfl) (JL_nt (J_if rfl (fun h73 => ?_) (fun h73 => ?_))))))))))))
       ·exact J_sr (JA rfl rfl (JL_nt (J_ret (N_block_ret (N_then_ret (N_round_ret (N_then_ret (N_ret1 rfl (rv_tmp rfl) (fun w hh => ⟨(), rfl, hh.sel [] rfl⟩)))))))))
       ·exact J_skip (N_block (N_then (J_region (JM rfl rfl (JL_q wn rfl (ex_add rfl rfl) (JA rfl rfl (JL_nil (N_next' () ⟨rfl, rfl, rfl, rfl, trivial⟩ [11, 12] rfl rfl))))))))
    ·exact J_exit (N_then_exit (N_break' () ⟨rfl, rfl, rfl, rfl, trivial⟩ [0, 1] rfl rfl))
   ·refine N_then (J_sr (JA rfl rfl (JL_nt (J_seq (J_draw [] (by kernel_rfl) ?_)))))
    refine JP_take (i := 0) [0, 1] [] rfl (by kernel_rfl) (by kernel_rfl) (by kernel_rfl) rfl rfl wn rfl (ex_move rfl) ?_
    refine JP_take (i := 1) [0, 1] [] rfl (by kernel_rfl) (by kernel_rfl) (by kernel_rfl) rfl rfl wn rfl (ex_nilCheck_pa 1 rfl rfl) ?_
    refine JP_sq (i := 2) [] rfl (by kernel_rfl) (by kernel_rfl) (by kernel_rfl) rfl wn rfl (sq_field_pa 1 (GFormula.at_Walls _) fi_31_3 rfl rfl rfl) (fun q74 => ?_)
    refine JP_sq (i := 3) [] rfl (by kernel_rfl) (by kernel_rfl) (by kernel_rfl) rfl wn rfl (sq_load_pa_o 0 (opens_sl _) ti_28 rfl rfl) (fun v75 => ?_)
    refine JP_take (i := 4) [0, 1, 2, 3] [] rfl (by kernel_rfl) (by kernel_rfl) (by kernel_rfl) rfl rfl wn rfl (ex_move rfl) ?_
    refine JP_take (i := 5) [0, 1, 2, 3] [] rfl (by kernel_rfl) (by kernel_rfl) (by kernel_rfl) rfl rfl wn rfl (ex_nilCheck_pa 3 rfl rfl) ?_
    refine JP_sq (i := 6) [] rfl (by kernel_rfl) (by kernel_rfl) (by kernel_rfl) rfl wn rfl (sq_field_pa 3 (GFormula.at_Head _) fi_31_1 rfl rfl rfl) (fun q76 => ?_)
    refine JP_sq (i := 7) [] rfl (by kernel_rfl) (by kernel_rfl) (by kernel_rfl) rfl wn rfl (sq_load_pa_o 0 (opens_int _) ti_2 rfl rfl) (fun _ => ?_)
    refine JP_bnd fun y78 hy79 => JP_sq (i := 8) [] rfl (by kernel_rfl) (by kernel_rfl) (by kernel_rfl) rfl wn rfl (sq_index 1 Try.underlying28 ti_29 rfl rfl rfl hy79) (fun q80 => ?_)
    refine JP_sq (i := 9) [] rfl (by kernel_rfl) (by kernel_rfl) (by kernel_rfl) rfl wn rfl (sq_load_pt_o 0 (opens_sl _) ti_29 rfl rfl) (fun v81 => ?_)
    refine JP_take (i := 10) [0, 1, 2, 3, 4, 5, 6] [] rfl (by kernel_rfl) (by kernel_rfl) (by kernel_rfl) rfl rfl wn rfl (ex_len_rd 0 Try.underlying29 rfl rfl) ?_
    refine JP_take (i := 11) [0, 1, 2, 3, 4, 5, 6] [] rfl (by kernel_rfl) (by kernel_rfl) (by kernel_rfl) rfl rfl wn rfl (ex_assign rfl) ?_
    refine JP_go [] [] rfl rfl rfl (fun _ _ _ => JD_done (by kernel_rfl) ?_)
    refine N_then (J_seq (J_cut' (S' := Int) (G' := Unit) (fun s82 _ => [(1, v1_), (5, .int .i64 (p1.Repeats.length : Int)), (8, .int .i64 s82), (9, .int .i64 (y78.length : Int))]) (fun s82 _ => [.pa v1_ p1]) ?_ (fun s82 g83 => ?_)))
    ·refine J_sr (JM rfl rfl (JL_q wn rfl (ex_nilCheck_pa 6 rfl rfl) (JL_st wn rfl (st_field_pa 6 (GFormula.at_Head _) fi_31_1 rfl rfl rfl) (fun q84 => JL_st wn rfl (st_load_pa_o 0 (opens_int _) ti_2 rfl rfl) (fun _ => JL_q wn rfl (ex_gtr rfl rfl) (JL_nt (J_if rfl (fun h86 => ?_) (fun h86 => ?_))))))))
     ·exact J_region (JA rfl rfl (JL_nil (N_meet' () ⟨rfl, rfl, rfl, rfl, trivial⟩ [7] rfl rfl)))
     ·exact J_skip (N_meet' () ⟨rfl, rfl, rfl, rfl, trivial⟩ [7] rfl rfl)
    ·refine N_then (J_seq (J_sr (JM rfl rfl (JL_q wn rfl (ex_nilCheck_pa 0 rfl rfl) (JL_st wn rfl (st_field_pa 0 (GFormula.at_Head _) fi_31_1 rfl rfl rfl) (fun q87 => JL_st wn rfl (st_load_pa_o 0 (opens_int _) ti_2 rfl rfl) (fun _ => JM rfl rfl (JL_q wn rfl (ex_eql rfl rfl) (JL_nt (J_if rfl (fun h89 => ?_) (fun h89 => ?_)))))))))))
     ·exact J_region (JM rfl rfl (JL_q wn rfl (ex_sub rfl rfl) (JA rfl rfl (JL_nt (J_sr (JM rfl rfl (JL_q wn rfl (ex_nilCheck_pa 1 rfl rfl) (JL_st wn rfl (st_field_pa 1 (GFormula.at_At _) fi_31_2 rfl rfl rfl) (fun q90 => JL_st wn rfl (st_load_pa_o 0 (opens_int _) ti_2 rfl rfl) (fun _ => JM rfl rfl (JM rfl rfl (JL_bnd fun r92 hr93 => JL_call wn rfl Try.call71 rfl (Ca_of0 fun w hh => c_spec_l00In _ w (fun _ hk => hk.elim) _ _ _ _ hr93) (fun _ => JA rfl rfl (JL_nt (J_ret (N_ret1 rfl (rv_tmp rfl) (fun w hh => ⟨(), rfl, hh.sel [] rfl⟩)))))))))))))))))
     ·exact J_skip (N_then (J_sr (JM rfl rfl (JL_q wn rfl (ex_nilCheck_pa 1 rfl rfl) (JL_st wn rfl (st_field_pa 1 (GFormula.at_At _) fi_31_2 rfl rfl rfl) (fun q94 => JL_st wn rfl (st_load_pa_o 0 (opens_int _) ti_2 rfl rfl) (fun _ => JM rfl rfl (JM rfl rfl (JL_bnd fun r96 hr97 => JL_call wn rfl Try.call71 rfl (Ca_of0 fun w hh => c_spec_l00In _ w (fun _ hk => hk.elim) _ _ _ _ hr97) (fun _ => JA rfl rfl (JL_nt (J_ret (N_ret1 rfl (rv_tmp rfl) (fun w hh => ⟨(), rfl, hh.sel [] rfl⟩))))))))))))))
set_option maxHeartbeats 40000000 in
theorem c_spec_R8Formula (A : Nat → Prop) (w : World) (hA : ∀ k, A k → k < w.heap.size) (v0_ : Value) (p0 : (List (Ik .u8))) (hp0 : Rd A w v0_ p0) (v1_ : Value) (p1 : GMachine) (hp1 : Rd A w v1_ p1) (r : GFormula × (List Int)) (hr : F_spec_R8Formula p0 p1 = some r) :
  Con Try.prog 6 [v0_, v1_] A w (fun x_ : Value × List Nat × Value × List Nat × Value × Value => .tuple #[.agg #[.int .i64 r.1.State, .int .i64 r.1.Head, .int .i64 r.1.At, x_.1, x_.2.2.1, x_.2.2.2.2.1], x_.2.2.2.2.2]) (fun x_ => [.tkn x_.1 r.1.Walls x_.2.1, .od 29 x_.2.2.1 r.1.Repeats x_.2.2.2.1, .ow 2 x_.2.2.2.2.1 r.1.Offsets, .ow 2 x_.2.2.2.2.2 r.2]) := by
 obtain ⟨v1_0, rfl, hp1_0⟩ := GMachine.open hp1
 refine Con_of (v := fun (r : GFormula × (List Int)) (x_ : Value × List Nat × Value × List Nat × Value × Value) => .tuple #[.agg #[.int .i64 r.1.State, .int .i64 r.1.Head, .int .i64 r.1.At, x_.1, x_.2.2.1, x_.2.2.2.2.1], x_.2.2.2.2.2]) (fs := fun r x_ => [.tkn x_.1 r.1.Walls x_.2.1, .od 29 x_.2.2.1 r.1.Repeats x_.2.2.2.1, .ow 2 x_.2.2.2.2.1 r.1.Offsets, .ow 2 x_.2.2.2.2.2 r.2]) Try.func6 rfl Try.ntmps6 rfl (((SH.start hA).start_rd rfl hp0).start_rd rfl hp1_0) rfl ?_ hr
 unfold F_spec_R8Formula
 refine J_sr (JL_st wn rfl (st_box' rfl (fun w hh => (cv_aggs ⟨cv_int, cv_int, (hh.cv 0 rfl), trivial⟩))) (fun b1 => JL_st wn rfl (st_alloc zi_31 rfl) (fun b2 => JA rfl rfl (JL_nt (J_sr (JM rfl rfl (JL_bnd fun r3 hr4 => JL_call wn rfl Try.call14 rfl (Ca_self (fun _ => rfl) fun w hh => c_spec_l00From _ w (fun _ hk => hk.elim) _ _ (hh.rd0 3 rfl) _ hr4) (fun x5 => ?_))))))))
 obtain ⟨x5_0, x5_1⟩ := x5
 refine JL_ctx (fun w hh => hh.sub_rd 5 rfl (hh.pr 0 rfl)) (JA rfl rfl (JL_nt (J_sr (JM rfl rfl (JL_inline wn rfl Try.call16 rfl Try.func16 rfl Try.ntmps16 rfl rfl (fun K_ hK6 => J_sr (JL_st wn rfl (st_alloc zi_31 rfl) (fun b7 => JL_nt (J_sr (JM rfl rfl (JL_bnd fun r8 hr9 => JL_callT wn rfl Try.call17 rfl (CaT_of [3] [0, 1, 2, 4, 5, 6, 7] rfl rfl (fun _ => rfl) fun w hh => c_spec_l00Src_pick w x5_1 (⟨r3.1, r3.2.1, r3.2.2⟩ : Gl00Src) x5_0 _ rfl (hh.handed [3] rfl rfl rfl rfl) (hh.apart [3] rfl (hh.rd 1 rfl)) _ _ hr9) (fun _ => JL_q wn rfl (ex_add rfl rfl) (JA rfl rfl (JL_nt (J_seq (J_cut' (S' := Int × (Ik .u64) × Int) (G' := Unit) (fun s10 _ => [(0, .pointer (some ⟨x5_1, 0, none⟩)), (1, .pointer (some ⟨b1, 0, none⟩)), (4, .pointer (some ⟨b7, 0, none⟩)), (5, .int .i64 s10.2.2)]) (fun s10 _ => [.rd x5_0 r3.1, .pr (Sub v0_ p0 x5_0 r3.1), .bx x5_1 71 [x5_0, .int .i64 s10.1, .int .u64 s10.2.1.val], .rd v1_0 p1.Rules, .bx b1 26 [.int .i64 p1.Symbols, .int .i64 p1.States, v1_0], .bx b7 31 [.int .i64 0, .int .i64 0, .int .i64 0, .slice none 0 0, .slice none 0 0, .slice none 0 0], .bx b2 31 [.int .i64 0, .int .i64 0, .int .i64 0, .slice none 0 0, .slice none 0 0, .slice none 0 0]]) ?_ (fun s10 g11 => ?_)))))))))))))))))
 ·refine J_sr (JM rfl rfl (JL_bnd fun r12 hr13 => JL_callT wn rfl Try.call38 rfl (CaT_of [0] [1, 2, 3, 4, 5, 6, 7] rfl rfl (fun _ => rfl) fun w hh => c_spec_l00Src_one w x5_1 (⟨r3.1, r8.2.1, r8.2.2⟩ : Gl00Src) x5_0 _ rfl (hh.handed [0] rfl rfl rfl rfl) (hh.apart [0] rfl (hh.rd 2 rfl)) _ _ hr13) (fun _ => JL_nt (J_if rfl (fun h14 => ?_) (fun h14 => ?_)))))
  ·exact J_region (JA rfl rfl (JL_nil (N_meet' () ⟨rfl, rfl, rfl, rfl, trivial⟩ [2, 3, 0, 6, 5, 1, 4] rfl rfl)))
  ·exact J_skip (N_meet' () ⟨rfl, rfl, rfl, rfl, trivial⟩ [2, 3, 0, 6, 5, 1, 4] rfl rfl)
 ·refine N_then (J_sr (JM rfl rfl (JM rfl rfl (JL_q wn rfl (ex_nilCheck rfl) (JL_q wn rfl (ex_fieldAddr fi_26_1 rfl rfl) (JL_q wn rfl (ex_load_bx 4 ti_2 rfl rfl rfl) (JL_bnd fun r15 hr16 => JL_callT wn rfl Try.call17 rfl (CaT_of [2] [0, 1, 3, 4, 5, 6] rfl rfl (fun _ => rfl) fun w hh => c_spec_l00Src_pick w x5_1 (⟨r3.1, s10.1, s10.2.1⟩ : Gl00Src) x5_0 _ rfl (hh.handed [2] rfl rfl rfl rfl) (hh.apart [2] rfl (hh.rd 0 rfl)) _ _ hr16) (fun _ => JM rfl rfl (JM rfl rfl (JL_q wn rfl (ex_add rfl rfl) (JL_bnd fun r17 hr18 => JL_callT wn rfl Try.call17 rfl (CaT_of [0] [1, 2, 3, 4, 5, 6] rfl rfl (fun _ => rfl) fun w hh => c_spec_l00Src_pick w x5_1 (⟨r3.1, r15.2.1, r15.2.2⟩ : Gl00Src) x5_0 _ rfl (hh.handed [0] rfl rfl rfl rfl) (hh.apart [0] rfl (hh.rd 1 rfl)) _ _ hr18) (fun _ => JL_q wn rfl (ex_build si_31 rfl (.cons fi_31_0 rfl rfl (.cons fi_31_1 rfl rfl .nil)) (fun w hh => ⟨cv_int, cv_int, trivial⟩)) (JL_st wn rfl (st_alloc zi_31 rfl) (fun b19 => JL_sk wn (sk_store_bx' 0 ti_31 rfl rfl (fun w hh => (cv_aggs ⟨cv_int, cv_int, cv_int, cv_slice, cv_slice, cv_slice, trivial⟩)) rfl rfl rfl rfl) (JL_nt (J_seq (J_sr (JA rfl rfl (JL_nt (J_ctx (fun w hh => SH.od_nil (α := (List Int)) 29 hh) (J_ctx (fun w hh => SH.od_nil (α := (List Int)) 29 hh) ?_)))))))))))))))))))))
  refine J_ctx (fun w hh => SH.ow_nil (α := Int) 2 hh) (J_loop' (S := Int × (Ik .u64) × (List (List Int)) × (List (List Int)) × (List Int) × Int) (G := Value × List Nat × Value × List Nat × Value) (F_spec_R8Formula_L1 r3 s10) (fun s20 g21 => [(0, .pointer (some ⟨x5_1, 0, none⟩)), (1, .pointer (some ⟨b1, 0, none⟩)), (4, .pointer (some ⟨b7, 0, none⟩)), (5, .int .i64 s10.2.2), (6, .pointer (some ⟨b19, 0, none⟩)), (7, .int .i64 s20.2.2.2.2.2)]) (fun s20 g21 => [.rd x5_0 r3.1, .pr (Sub v0_ p0 x5_0 r3.1), .bx x5_1 71 [x5_0, .int .i64 s20.1, .int .u64 s20.2.1.val], .rd v1_0 p1.Rules, .bx b1 26 [.int .i64 p1.Symbols, .int .i64 p1.States, v1_0], .bx b7 31 [.int .i64 0, .int .i64 0, .int .i64 0, .slice none 0 0, .slice none 0 0, .slice none 0 0], .od 29 g21.1 s20.2.2.1 g21.2.1, .od 29 g21.2.2.1 s20.2.2.2.1 g21.2.2.2.1, .ow 2 g21.2.2.2.2 s20.2.2.2.2.1, .bx b19 31 [.int .i64 r15.1, .int .i64 r17.1, .int .i64 0, g21.1, g21.2.2.1, g21.2.2.2.2], .bx b2 31 [.int .i64 0, .int .i64 0, .int .i64 0, .slice none 0 0, .slice none 0 0, .slice none 0 0]]) (r17.2.1, r17.2.2, ([] : (List (List Int))), ([] : (List (List Int))), ([] : (List Int)), 0) ((.slice none 0 0 : Value), ([] : List Nat), (.slice none 0 0 : Value), ([] : List Nat), (.slice none 0 0 : Value)) ⟨rfl, rfl, rfl, rfl, rfl, rfl, trivial⟩ [5, 6, 4, 7, 8, 9, 2, 1, 0, 3, 10] rfl rfl (fun s20 g21 => ?_) (fun s20 g21 => ?_))
  ·obtain ⟨g21_0, g21_1, g21_2, g21_3, g21_4⟩ := g21
   unfold F_spec_R8Formula_L1
   refine J_seq (J_sr (JM rfl rfl (JM rfl rfl (JL_q wn rfl (ex_leq rfl rfl) (JL_nt (J_if rfl (fun h22 => ?_) (fun h22 => ?_)))))))
   ·refine J_skip (N_then (J_seq (J_block (J_seq (J_cut' (S' := Int × (Ik .u64) × (List (List Int))) (G' := Value × List Nat) (fun s23 g24 => [(0, .pointer (some ⟨x5_1, 0, none⟩)), (1, .pointer (some ⟨b1, 0, none⟩)), (4, .pointer (some ⟨b7, 0, none⟩)), (5, .int .i64 s10.2.2), (6, .pointer (some ⟨b19, 0, none⟩)), (7, .int .i64 s20.2.2.2.2.2)]) (fun s23 g24 => [.rd x5_0 r3.1, .pr (Sub v0_ p0 x5_0 r3.1), .bx x5_1 71 [x5_0, .int .i64 s23.1, .int .u64 s23.2.1.val], .rd v1_0 p1.Rules, .bx b1 26 [.int .i64 p1.Symbols, .int .i64 p1.States, v1_0], .bx b7 31 [.int .i64 0, .int .i64 0, .int .i64 0, .slice none 0 0, .slice none 0 0, .slice none 0 0], .od 29 g24.1 s23.2.2 g24.2, .od 29 g21_2 s20.2.2.2.1 g21_3, .ow 2 g21_4 s20.2.2.2.2.1, .bx b19 31 [.int .i64 r15.1, .int .i64 r17.1, .int .i64 0, g24.1, g21_2, g21_4], .bx b2 31 [.int .i64 0, .int .i64 0, .int .i64 0, .slice none 0 0, .slice none 0 0, .slice none 0 0]]) ?_ (fun s23 g24 => ?_))))))
    ·refine J_draw [2, 6, 9] (by kernel_rfl) ?_
     refine JP_take (i := 0) [0, 1, 3, 4, 5, 7, 8, 10] [2, 6, 9] rfl (by kernel_rfl) (by kernel_rfl) (by kernel_rfl) rfl rfl wn rfl (ex_fieldAddr fi_31_3 rfl rfl) ?_
     refine JP_take (i := 2) [0, 1, 3, 4, 5, 7, 8, 10] [2, 6, 9] rfl (by kernel_rfl) (by kernel_rfl) (by kernel_rfl) rfl rfl wn rfl (ex_move rfl) ?_
     refine JP_go [0, 1, 3, 4, 5, 7, 8, 10] [2, 6, 9] rfl rfl rfl (fun w26 h1_27 hp25 => JD_bnd fun r28 hr29 => JD_two (i := 1) (j := 3) (by kernel_rfl) ?_ ?_)
     ·refine JO_q rfl wn rfl (ex_load_bx 9 ti_28 rfl rfl rfl) (JD_one (i := 3) (by kernel_rfl) ?_)
      refine JO_callT rfl wn rfl Try.call39 rfl (CaT_of [2] [0, 1, 3, 4, 5, 6, 7, 8, 9, 10] rfl rfl (fun _ => rfl) fun w hh => c_spec_l27DrawFlat w x5_1 (⟨r3.1, s20.1, s20.2.1⟩ : Gl00Src) x5_0 _ rfl (hh.handed [2] rfl rfl rfl rfl) (hh.apart [2] rfl (hh.rd 0 rfl)) _ _ _ hr29) (sub_bx 0 rfl) (fun x30 => JD_one (i := 4) (by kernel_rfl) ?_)
      refine JO_ctx (fun w hh => hh.tokf 0 rfl rfl) (tokf_owns (i := 0) rfl) (JO_st rfl wn rfl (st_buildSlice_od (vs := [x30]) (B := (((x30 : Value).ownBlock.toList ++ []) ++ [])) ([r28.1] : List (List Int)) [0] Try.underlying28 ti_29 zi_29 rfl rfl rfl rfl rfl (fun w hh => (dwv_cons (hh.dw 0 rfl) dwv_nil))) (fun _ hk => nomatch hk) (fun b31 => JD_bnd fun z32 hz33 => JD_one (i := 5) (by kernel_rfl) ?_))
      refine JO_st rfl wn rfl (st_append_od 9 0 Try.underlying28 ti_29 zi_29 rfl bi_29 rfl rfl rfl rfl rfl rfl hz33) (sub_od 1 rfl) (fun v34 => JD_take (i := 6) hp25 rfl (by kernel_rfl) (by kernel_rfl) (by kernel_rfl) wn rfl (ex_fieldAddr fi_31_3 rfl rfl) ?_)
      refine JD_one (i := 7) (by kernel_rfl) ?_
      refine JO_sk rfl wn (sk_store_bx' 12 ti_28 rfl rfl (fun w hh => (hh.cv_od 9 rfl)) rfl rfl rfl rfl) (sub_bx 2 rfl) (JD_done (by kernel_rfl) ?_)
      exact N_meet' (v34, (g21_1 ++ (((x30 : Value).ownBlock.toList ++ []) ++ []))) ⟨rfl, rfl, rfl, rfl, rfl, rfl, trivial⟩ [4, 5, 3, 6, 7, 8, 9, 10, 11, 12, 13] rfl rfl
     ·refine JO_callT rfl wn rfl Try.call39 rfl (CaT_of [2] [0, 1, 3, 4, 5, 6, 7, 8, 9, 10] rfl rfl (fun _ => rfl) fun w hh => c_spec_l27DrawFlat w x5_1 (⟨r3.1, s20.1, s20.2.1⟩ : Gl00Src) x5_0 _ rfl (hh.handed [2] rfl rfl rfl rfl) (hh.apart [2] rfl (hh.rd 0 rfl)) _ _ _ hr29) (sub_bx 0 rfl) (fun x35 => JD_two (i := 1) (j := 4) (by kernel_rfl) ?_ ?_)
      ·refine JO_q rfl wn rfl (ex_load_bx 10 ti_28 rfl rfl rfl) (JD_one (i := 4) (by kernel_rfl) ?_)
       refine JO_ctx (fun w hh => hh.tokf 0 rfl rfl) (tokf_owns (i := 0) rfl) (JO_st rfl wn rfl (st_buildSlice_od (vs := [x35]) (B := (((x35 : Value).ownBlock.toList ++ []) ++ [])) ([r28.1] : List (List Int)) [0] Try.underlying28 ti_29 zi_29 rfl rfl rfl rfl rfl (fun w hh => (dwv_cons (hh.dw 0 rfl) dwv_nil))) (fun _ hk => nomatch hk) (fun b36 => JD_bnd fun z37 hz38 => JD_one (i := 5) (by kernel_rfl) ?_))
       refine JO_st rfl wn rfl (st_append_od 9 0 Try.underlying28 ti_29 zi_29 rfl bi_29 rfl rfl rfl rfl rfl rfl hz38) (sub_od 1 rfl) (fun v39 => JD_take (i := 6) hp25 rfl (by kernel_rfl) (by kernel_rfl) (by kernel_rfl) wn rfl (ex_fieldAddr fi_31_3 rfl rfl) ?_)
       refine JD_one (i := 7) (by kernel_rfl) ?_
       refine JO_sk rfl wn (sk_store_bx' 12 ti_28 rfl rfl (fun w hh => (hh.cv_od 9 rfl)) rfl rfl rfl rfl) (sub_bx 2 rfl) (JD_done (by kernel_rfl) ?_)
       exact N_meet' (v39, (g21_1 ++ (((x35 : Value).ownBlock.toList ++ []) ++ []))) ⟨rfl, rfl, rfl, rfl, rfl, rfl, trivial⟩ [4, 5, 3, 6, 7, 8, 9, 10, 11, 12, 13] rfl rfl
      ·refine JO_ctx (fun w hh => hh.tokf 0 rfl rfl) (tokf_owns (i := 0) rfl) (JO_st rfl wn rfl (st_buildSlice_od (vs := [x35]) (B := (((x35 : Value).ownBlock.toList ++ []) ++ [])) ([r28.1] : List (List Int)) [0] Try.underlying28 ti_29 zi_29 rfl rfl rfl rfl rfl (fun w hh => (dwv_cons (hh.dw 0 rfl) dwv_nil))) (fun _ hk => nomatch hk) (fun b40 => JD_one (i := 1) (by kernel_rfl) ?_))
       refine JO_q rfl wn rfl (ex_load_bx 12 ti_28 rfl rfl rfl) (JD_bnd fun z41 hz42 => JD_one (i := 5) (by kernel_rfl) ?_)
       refine JO_st rfl wn rfl (st_append_od 9 0 Try.underlying28 ti_29 zi_29 rfl bi_29 rfl rfl rfl rfl rfl rfl hz42) (sub_od 1 rfl) (fun v43 => JD_take (i := 6) hp25 rfl (by kernel_rfl) (by kernel_rfl) (by kernel_rfl) wn rfl (ex_fieldAddr fi_31_3 rfl rfl) ?_)
       refine JD_one (i := 7) (by kernel_rfl) ?_
       refine JO_sk rfl wn (sk_store_bx' 12 ti_28 rfl rfl (fun w hh => (hh.cv_od 9 rfl)) rfl rfl rfl rfl) (sub_bx 2 rfl) (JD_done (by kernel_rfl) ?_)
       exact N_meet' (v43, (g21_1 ++ (((x35 : Value).ownBlock.toList ++ []) ++ []))) ⟨rfl, rfl, rfl, rfl, rfl, rfl, trivial⟩ [4, 5, 3, 6, 7, 8, 9, 10, 11, 12, 13] rfl rfl
    ·obtain ⟨g24_0, g24_1⟩ := g24
     refine N_then (J_sr (JM rfl rfl (JM rfl rfl (JL_q wn rfl (ex_lss rfl rfl) (JL_nt (J_if rfl (fun h44 => ?_) (fun h44 => ?_)))))))
     ·refine J_seq (J_cut' (S' := Int × (Ik .u64) × (List (List Int))) (G' := Value × List Nat) (fun s45 g46 => [(0, .pointer (some ⟨x5_1, 0, none⟩)), (1, .pointer (some ⟨b1, 0, none⟩)), (4, .pointer (some ⟨b7, 0, none⟩)), (5, .int .i64 s10.2.2), (6, .pointer (some ⟨b19, 0, none⟩)), (7, .int .i64 s20.2.2.2.2.2)]) (fun s45 g46 => [.rd x5_0 r3.1, .pr (Sub v0_ p0 x5_0 r3.1), .bx x5_1 71 [x5_0, .int .i64 s45.1, .int .u64 s45.2.1.val], .rd v1_0 p1.Rules, .bx b1 26 [.int .i64 p1.Symbols, .int .i64 p1.States, v1_0], .bx b7 31 [.int .i64 0, .int .i64 0, .int .i64 0, .slice none 0 0, .slice none 0 0, .slice none 0 0], .od 29 g24_0 s23.2.2 g24_1, .od 29 g46.1 s45.2.2 g46.2, .ow 2 g21_4 s20.2.2.2.2.1, .bx b19 31 [.int .i64 r15.1, .int .i64 r17.1, .int .i64 0, g24_0, g46.1, g21_4], .bx b2 31 [.int .i64 0, .int .i64 0, .int .i64 0, .slice none 0 0, .slice none 0 0, .slice none 0 0]]) ?_ (fun s45 g46 => ?_))
      ·refine J_draw [2, 7, 9] (by kernel_rfl) ?_
       refine JP_take (i := 0) [0, 1, 3, 4, 5, 6, 8, 10] [2, 7, 9] rfl (by kernel_rfl) (by kernel_rfl) (by kernel_rfl) rfl rfl wn rfl (ex_fieldAddr fi_31_4 rfl rfl) ?_
       refine JP_take (i := 2) [0, 1, 3, 4, 5, 6, 8, 10] [2, 7, 9] rfl (by kernel_rfl) (by kernel_rfl) (by kernel_rfl) rfl rfl wn rfl (ex_move rfl) ?_
       refine JP_go [0, 1, 3, 4, 5, 6, 8, 10] [2, 7, 9] rfl rfl rfl (fun w48 h1_49 hp47 => JD_bnd fun r50 hr51 => JD_two (i := 1) (j := 3) (by kernel_rfl) ?_ ?_)
       ·refine JO_q rfl wn rfl (ex_load_bx 9 ti_28 rfl rfl rfl) (JD_one (i := 3) (by kernel_rfl) ?_)
        refine JO_callT rfl wn rfl Try.call39 rfl (CaT_of [2] [0, 1, 3, 4, 5, 6, 7, 8, 9, 10] rfl rfl (fun _ => rfl) fun w hh => c_spec_l27DrawFlat w x5_1 (⟨r3.1, s23.1, s23.2.1⟩ : Gl00Src) x5_0 _ rfl (hh.handed [2] rfl rfl rfl rfl) (hh.apart [2] rfl (hh.rd 0 rfl)) _ _ _ hr51) (sub_bx 0 rfl) (fun x52 => JD_one (i := 4) (by kernel_rfl) ?_)
        refine JO_ctx (fun w hh => hh.tokf 0 rfl rfl) (tokf_owns (i := 0) rfl) (JO_st rfl wn rfl (st_buildSlice_od (vs := [x52]) (B := (((x52 : Value).ownBlock.toList ++ []) ++ [])) ([r50.1] : List (List Int)) [0] Try.underlying28 ti_29 zi_29 rfl rfl rfl rfl rfl (fun w hh => (dwv_cons (hh.dw 0 rfl) dwv_nil))) (fun _ hk => nomatch hk) (fun b53 => JD_bnd fun z54 hz55 => JD_one (i := 5) (by kernel_rfl) ?_))
        refine JO_st rfl wn rfl (st_append_od 10 0 Try.underlying28 ti_29 zi_29 rfl bi_29 rfl rfl rfl rfl rfl rfl hz55) (sub_od 1 rfl) (fun v56 => JD_take (i := 6) hp47 rfl (by kernel_rfl) (by kernel_rfl) (by kernel_rfl) wn rfl (ex_fieldAddr fi_31_4 rfl rfl) ?_)
        refine JD_one (i := 7) (by kernel_rfl) ?_
        refine JO_sk rfl wn (sk_store_bx' 12 ti_28 rfl rfl (fun w hh => (hh.cv_od 10 rfl)) rfl rfl rfl rfl) (sub_bx 2 rfl) (JD_done (by kernel_rfl) ?_)
        exact N_meet' (v56, (g21_3 ++ (((x52 : Value).ownBlock.toList ++ []) ++ []))) ⟨rfl, rfl, rfl, rfl, rfl, rfl, trivial⟩ [4, 5, 3, 6, 7, 8, 9, 10, 11, 12, 13] rfl rfl
       ·refine JO_callT rfl wn rfl Try.call39 rfl (CaT_of [2] [0, 1, 3, 4, 5, 6, 7, 8, 9, 10] rfl rfl (fun _ => rfl) fun w hh => c_spec_l27DrawFlat w x5_1 (⟨r3.1, s23.1, s23.2.1⟩ : Gl00Src) x5_0 _ rfl (hh.handed [2] rfl rfl rfl rfl) (hh.apart [2] rfl (hh.rd 0 rfl)) _ _ _ hr51) (sub_bx 0 rfl) (fun x57 => JD_two (i := 1) (j := 4) (by kernel_rfl) ?_ ?_)
        ·refine JO_q rfl wn rfl (ex_load_bx 10 ti_28 rfl rfl rfl) (JD_one (i := 4) (by kernel_rfl) ?_)
         refine JO_ctx (fun w hh => hh.tokf 0 rfl rfl) (tokf_owns (i := 0) rfl) (JO_st rfl wn rfl (st_buildSlice_od (vs := [x57]) (B := (((x57 : Value).ownBlock.toList ++ []) ++ [])) ([r50.1] : List (List Int)) [0] Try.underlying28 ti_29 zi_29 rfl rfl rfl rfl rfl (fun w hh => (dwv_cons (hh.dw 0 rfl) dwv_nil))) (fun _ hk => nomatch hk) (fun b58 => JD_bnd fun z59 hz60 => JD_one (i := 5) (by kernel_rfl) ?_))
         refine JO_st rfl wn rfl (st_append_od 10 0 Try.underlying28 ti_29 zi_29 rfl bi_29 rfl rfl rfl rfl rfl rfl hz60) (sub_od 1 rfl) (fun v61 => JD_take (i := 6) hp47 rfl (by kernel_rfl) (by kernel_rfl) (by kernel_rfl) wn rfl (ex_fieldAddr fi_31_4 rfl rfl) ?_)
         refine JD_one (i := 7) (by kernel_rfl) ?_
         refine JO_sk rfl wn (sk_store_bx' 12 ti_28 rfl rfl (fun w hh => (hh.cv_od 10 rfl)) rfl rfl rfl rfl) (sub_bx 2 rfl) (JD_done (by kernel_rfl) ?_)
         exact N_meet' (v61, (g21_3 ++ (((x57 : Value).ownBlock.toList ++ []) ++ []))) ⟨rfl, rfl, rfl, rfl, rfl, rfl, trivial⟩ [4, 5, 3, 6, 7, 8, 9, 10, 11, 12, 13] rfl rfl
        ·refine JO_ctx (fun w hh => hh.tokf 0 rfl rfl) (tokf_owns (i := 0) rfl) (JO_st rfl wn rfl (st_buildSlice_od (vs := [x57]) (B := (((x57 : Value).ownBlock.toList ++ []) ++ [])) ([r50.1] : List (List Int)) [0] Try.underlying28 ti_29 zi_29 rfl rfl rfl rfl rfl (fun w hh => (dwv_cons (hh.dw 0 rfl) dwv_nil))) (fun _ hk => nomatch hk) (fun b62 => JD_one (i := 1) (by kernel_rfl) ?_))
         refine JO_q rfl wn rfl (ex_load_bx 12 ti_28 rfl rfl rfl) (JD_bnd fun z63 hz64 => JD_one (i := 5) (by kernel_rfl) ?_)
         refine JO_st rfl wn rfl (st_append_od 10 0 Try.underlying28 ti_29 zi_29 rfl bi_29 rfl rfl rfl rfl rfl rfl hz64) (sub_od 1 rfl) (fun v65 => JD_take (i := 6) hp47 rfl (by kernel_rfl) (by kernel_rfl) (by kernel_rfl) wn rfl (ex_fieldAddr fi_31_4 rfl rfl) ?_)
         refine JD_one (i := 7) (by kernel_rfl) ?_
         refine JO_sk rfl wn (sk_store_bx' 12 ti_28 rfl rfl (fun w hh => (hh.cv_od 10 rfl)) rfl rfl rfl rfl) (sub_bx 2 rfl) (JD_done (by kernel_rfl) ?_)
         exact N_meet' (v65, (g21_3 ++ (((x57 : Value).ownBlock.toList ++ []) ++ []))) ⟨rfl, rfl, rfl, rfl, rfl, rfl, trivial⟩ [4, 5, 3, 6, 7, 8, 9, 10, 11, 12, 13] rfl rfl
      ·obtain ⟨g46_0, g46_1⟩ := g46
       refine N_then (J_draw [2, 8, 9] (by kernel_rfl) ?_)
       refine JP_take (i := 0) [0, 1, 3, 4, 5, 6, 7, 10] [2, 8, 9] rfl (by kernel_rfl) (by kernel_rfl) (by kernel_rfl) rfl rfl wn rfl (ex_fieldAddr fi_31_5 rfl rfl) ?_
       refine JP_take (i := 2) [0, 1, 3, 4, 5, 6, 7, 10] [2, 8, 9] rfl (by kernel_rfl) (by kernel_rfl) (by kernel_rfl) rfl rfl wn rfl (ex_move rfl) ?_
       refine JP_go [0, 1, 3, 4, 5, 6, 7, 10] [2, 8, 9] rfl rfl rfl (fun w67 h1_68 hp66 => JD_bnd fun r69 hr70 => JD_two (i := 1) (j := 3) (by kernel_rfl) ?_ ?_)
       ·refine JO_q rfl wn rfl (ex_load_bx 9 ti_29 rfl rfl rfl) (JD_one (i := 3) (by kernel_rfl) ?_)
        refine JO_callT rfl wn rfl Try.call17 rfl (CaT_of [2] [0, 1, 3, 4, 5, 6, 7, 8, 9, 10] rfl rfl (fun _ => rfl) fun w hh => c_spec_l00Src_pick w x5_1 (⟨r3.1, s45.1, s45.2.1⟩ : Gl00Src) x5_0 _ rfl (hh.handed [2] rfl rfl rfl rfl) (hh.apart [2] rfl (hh.rd 0 rfl)) _ _ hr70) (sub_bx 0 rfl) (fun _ => JD_take (i := 4) hp66 rfl (by kernel_rfl) (by kernel_rfl) (by kernel_rfl) wn rfl (ex_sub rfl rfl) ?_)
        refine JD_one (i := 5) (by kernel_rfl) ?_
        refine JO_st rfl wn rfl (st_buildSlice (vs := [.int .i64 (w64 (r69.1 - 2))]) ([(w64 (r69.1 - 2))] : List Int) Try.underlying29 ti_2 zi_2 rfl rfl rfl (fun w hh => ⟨(Rd.mk_int _ _ _), trivial⟩)) (fun _ hk => nomatch hk) (fun b71 => JD_bnd fun z72 hz73 => JD_one (i := 6) (by kernel_rfl) ?_)
        refine JO_st rfl wn rfl (st_append 9 Try.underlying29 ti_2 zi_2 rfl bi_2 rfl rfl rfl rfl (fun w hh => hh.src_ow 0 rfl) hz73) (sub_ow 1 rfl) (fun v74 => JD_take (i := 7) hp66 rfl (by kernel_rfl) (by kernel_rfl) (by kernel_rfl) wn rfl (ex_fieldAddr fi_31_5 rfl rfl) ?_)
        refine JD_one (i := 8) (by kernel_rfl) ?_
        refine JO_sk rfl wn (sk_store_bx' 10 ti_29 rfl rfl (fun w hh => (hh.cv_ow 9 rfl)) rfl rfl rfl rfl) (sub_bx 2 rfl) (JD_done (by kernel_rfl) ?_)
        exact N_block (N_then (J_region (JM rfl rfl (JL_q wn rfl (ex_add rfl rfl) (JA rfl rfl (JL_nil (N_next' (g24_0, g24_1, g46_0, g46_1, v74) ⟨rfl, rfl, rfl, rfl, rfl, rfl, trivial⟩ [2, 3, 1, 4, 5, 6, 7, 8, 9, 10, 11] rfl rfl)))))))
       ·refine JO_callT rfl wn rfl Try.call17 rfl (CaT_of [2] [0, 1, 3, 4, 5, 6, 7, 8, 9, 10] rfl rfl (fun _ => rfl) fun w hh => c_spec_l00Src_pick w x5_1 (⟨r3.1, s45.1, s45.2.1⟩ : Gl00Src) x5_0 _ rfl (hh.handed [2] rfl rfl rfl rfl) (hh.apart [2] rfl (hh.rd 0 rfl)) _ _ hr70) (sub_bx 0 rfl) (fun _ => JD_take (i := 4) hp66 rfl (by kernel_rfl) (by kernel_rfl) (by kernel_rfl) wn rfl (ex_sub rfl rfl) ?_)
        refine JD_two (i := 1) (j := 5) (by kernel_rfl) ?_ ?_
        ·refine JO_q rfl wn rfl (ex_load_bx 9 ti_29 rfl rfl rfl) (JD_one (i := 5) (by kernel_rfl) ?_)
         refine JO_st rfl wn rfl (st_buildSlice (vs := [.int .i64 (w64 (r69.1 - 2))]) ([(w64 (r69.1 - 2))] : List Int) Try.underlying29 ti_2 zi_2 rfl rfl rfl (fun w hh => ⟨(Rd.mk_int _ _ _), trivial⟩)) (fun _ hk => nomatch hk) (fun b75 => JD_bnd fun z76 hz77 => JD_one (i := 6) (by kernel_rfl) ?_)
         refine JO_st rfl wn rfl (st_append 9 Try.underlying29 ti_2 zi_2 rfl bi_2 rfl rfl rfl rfl (fun w hh => hh.src_ow 0 rfl) hz77) (sub_ow 1 rfl) (fun v78 => JD_take (i := 7) hp66 rfl (by kernel_rfl) (by kernel_rfl) (by kernel_rfl) wn rfl (ex_fieldAddr fi_31_5 rfl rfl) ?_)
         refine JD_one (i := 8) (by kernel_rfl) ?_
         refine JO_sk rfl wn (sk_store_bx' 10 ti_29 rfl rfl (fun w hh => (hh.cv_ow 9 rfl)) rfl rfl rfl rfl) (sub_bx 2 rfl) (JD_done (by kernel_rfl) ?_)
         exact N_block (N_then (J_region (JM rfl rfl (JL_q wn rfl (ex_add rfl rfl) (JA rfl rfl (JL_nil (N_next' (g24_0, g24_1, g46_0, g46_1, v78) ⟨rfl, rfl, rfl, rfl, rfl, rfl, trivial⟩ [2, 3, 1, 4, 5, 6, 7, 8, 9, 10, 11] rfl rfl)))))))
        ·refine JO_st rfl wn rfl (st_buildSlice (vs := [.int .i64 (w64 (r69.1 - 2))]) ([(w64 (r69.1 - 2))] : List Int) Try.underlying29 ti_2 zi_2 rfl rfl rfl (fun w hh => ⟨(Rd.mk_int _ _ _), trivial⟩)) (fun _ hk => nomatch hk) (fun b79 => JD_one (i := 1) (by kernel_rfl) ?_)
         refine JO_q rfl wn rfl (ex_load_bx 10 ti_29 rfl rfl rfl) (JD_bnd fun z80 hz81 => JD_one (i := 6) (by kernel_rfl) ?_)
         refine JO_st rfl wn rfl (st_append 9 Try.underlying29 ti_2 zi_2 rfl bi_2 rfl rfl rfl rfl (fun w hh => hh.src_ow 0 rfl) hz81) (sub_ow 1 rfl) (fun v82 => JD_take (i := 7) hp66 rfl (by kernel_rfl) (by kernel_rfl) (by kernel_rfl) wn rfl (ex_fieldAddr fi_31_5 rfl rfl) ?_)
         refine JD_one (i := 8) (by kernel_rfl) ?_
         refine JO_sk rfl wn (sk_store_bx' 10 ti_29 rfl rfl (fun w hh => (hh.cv_ow 9 rfl)) rfl rfl rfl rfl) (sub_bx 2 rfl) (JD_done (by kernel_rfl) ?_)
         exact N_block (N_then (J_region (JM rfl rfl (JL_q wn rfl (ex_add rfl rfl) (JA rfl rfl (JL_nil (N_next' (g24_0, g24_1, g46_0, g46_1, v82) ⟨rfl, rfl, rfl, rfl, rfl, rfl, trivial⟩ [2, 3, 1, 4, 5, 6, 7, 8, 9, 10, 11] rfl rfl)))))))
     ·exact J_skip (N_block (N_then (J_region (JM rfl rfl (JL_q wn rfl (ex_add rfl rfl) (JA rfl rfl (JL_nil (N_next' (g24_0, g24_1, g21_2, g21_3, g21_4) ⟨rfl, rfl, rfl, rfl, rfl, rfl, trivial⟩ [0, 1, 2, 3, 4, 5, 6, 7, 8, 9, 10] rfl rfl))))))))
   ·exact J_exit (N_then_exit (N_break' (g21_0, g21_1, g21_2, g21_3, g21_4) ⟨rfl, rfl, rfl, rfl, rfl, rfl, trivial⟩ [0, 1, 2, 3, 4, 5, 6, 7, 8, 9, 10] rfl rfl))
  ·obtain ⟨g21_0, g21_1, g21_2, g21_3, g21_4⟩ := g21
   refine N_then (J_seq (J_od_mk 6 [1, 2, 4, 5, 7, 8, 9, 10] rfl rfl rfl (((SH.start hA).start_rd rfl hp0).start_rd rfl hp1_0) rfl (fun C83 => J_ctx (fun w hh => hh.sub_rd 2 rfl (hh.pr 3 rfl)) (J_bnd fun y84 hy85 => ?_))))
   refine J_mk_open 1 rfl hy85 ?_; rintro b86 o87 cap88 rfl
   refine J_hole1 1 rfl (by first | rfl | simp) hy85 (fun L89 R90 v91 C92 Ba93 Bb94 tt95 hL96 => ?_)
   refine J_region (JL_q wn rfl (ex_fieldAddr fi_31_3 rfl rfl) (JL_q wn rfl (ex_load_bx 13 ti_28 rfl rfl rfl) (JL_q wn rfl (ex_fieldAddr fi_31_1 rfl rfl) (JL_q wn rfl (ex_load_bx 13 ti_2 rfl rfl rfl) (JL_q wn rfl (ex_index_hole Try.underlying28 ti_29 rfl rfl hy85 (by first | rfl | simp) hL96) ?_)))))
   refine JL_q wn rfl (ex_load_bx 0 ti_29 rfl rfl (app_at (j := 0) rfl)) (JA rfl rfl (JL_nt (J_sr (JM rfl rfl (JM rfl rfl (JL_q wn rfl (ex_len_mk 1 Try.underlying29 rfl rfl) (JL_q wn rfl (ex_add rfl rfl) (JL_bnd fun r97 hr98 => JL_callT wn rfl Try.call17 rfl (CaT_of [8] [0, 1, 2, 3, 4, 5, 6, 7, 9, 10, 11, 12, 13, 14] rfl rfl (fun _ => rfl) fun w hh => c_spec_l00Src_pick w x5_1 (⟨r3.1, s20.1, s20.2.1⟩ : Gl00Src) x5_0 _ rfl (hh.handed [8] rfl rfl rfl rfl) (hh.apart [8] rfl (hh.rd 3 rfl)) _ _ hr98) (fun _ => JL_q wn rfl (ex_sub rfl rfl) (JL_q wn rfl (ex_fieldAddr fi_31_2 rfl rfl) (JL_sk wn (sk_store_bx' 13 ti_2 rfl rfl (fun w hh => cv_int) rfl rfl rfl rfl) (JL_nt (J_seq (J_sr (JM rfl rfl (JL_bnd fun r99 hr100 => JL_call wn rfl Try.call40 rfl (Ca_of0 fun w hh => c_spec_l27Is _ w (fun _ hk => hk.elim) _ _ (hh.bx_pa 9 rfl (GMachine.rdmk (Rd.mk_int _ _ _) (Rd.mk_int _ _ _) (hh.rd0 6 rfl)) rfl) _ _ (hh.bx_pa 13 rfl (GFormula.rdmk (Rd.mk_int _ _ _) (Rd.mk_int _ _ _) (Rd.mk_int _ _ _) (SH.mk0 (SH.hole1_closeL (idx_eq hy85).2.1 (by first | rfl | simp) (show SH _ _ _ (.bx b86 tt95 (L89 ++ [v91] ++ R90) :: mkr v91 y84 C92 :: hol o87 cap88 s20.2.2.1 r17.1.toNat L89 R90 Ba93 Bb94 :: _) from hh.sel [1, 2, 3, 0, 4, 6, 7, 8, 9, 10, 11, 12, 13, 14] rfl)) 0 rfl) (hh.od0 11 rfl) (hh.ow0 12 rfl)) rfl) _ hr100) (fun _ => ?_)))))))))))))))))
   refine JL_q wn rfl (ex_not rfl) (JL_nt (J_if rfl (fun h101 => ?_) (fun h101 => ?_)))
   ·refine J_seq (J_draw [1, 2] (by kernel_rfl) ?_)
    refine JP_take (i := 0) [0, 3, 4, 5, 6, 7, 8, 9, 10, 11, 12, 13, 14] [1, 2] rfl (by kernel_rfl) (by kernel_rfl) (by kernel_rfl) rfl rfl wn rfl (ex_fieldAddr fi_31_3 rfl rfl) ?_
    refine JP_take (i := 1) [0, 3, 4, 5, 6, 7, 8, 9, 10, 11, 12, 13, 14] [1, 2] rfl (by kernel_rfl) (by kernel_rfl) (by kernel_rfl) rfl rfl wn rfl (ex_load_bx 11 ti_28 rfl rfl rfl) ?_
    refine JP_take (i := 2) [0, 3, 4, 5, 6, 7, 8, 9, 10, 11, 12, 13, 14] [1, 2] rfl (by kernel_rfl) (by kernel_rfl) (by kernel_rfl) rfl rfl wn rfl (ex_fieldAddr fi_31_1 rfl rfl) ?_
    refine JP_take (i := 3) [0, 3, 4, 5, 6, 7, 8, 9, 10, 11, 12, 13, 14] [1, 2] rfl (by kernel_rfl) (by kernel_rfl) (by kernel_rfl) rfl rfl wn rfl (ex_load_bx 11 ti_2 rfl rfl rfl) ?_
    refine JP_take (i := 4) [0, 3, 4, 5, 6, 7, 8, 9, 10, 11, 12, 13, 14] [1, 2] rfl (by kernel_rfl) (by kernel_rfl) (by kernel_rfl) rfl rfl wn rfl (ex_move rfl) ?_
    refine JP_go [0, 3, 4, 5, 6, 7, 8, 9, 10, 11, 12, 13, 14] [1, 2] rfl rfl rfl (fun w103 h1_104 hp102 => JD_one (i := 5) (by kernel_rfl) ?_)
    refine JO_st rfl wn rfl (st_buildSlice (vs := [.int .i64 1]) ([1] : List Int) Try.underlying29 ti_2 zi_2 rfl rfl rfl (fun w hh => ⟨(Rd.mk_int _ _ _), trivial⟩)) (fun _ hk => nomatch hk) (fun b105 => JD_bnd fun z106 hz107 => JD_one (i := 6) (by kernel_rfl) ?_)
    refine JO_st rfl wn rfl (st_append_mk 3 Try.underlying29 ti_2 zi_2 rfl bi_2 rfl rfl rfl rfl rfl (fun w hh => hh.src_ow 0 rfl) (by simp) hz107) (sub_mk 1 rfl) (fun v108 => ?_)
    obtain ⟨v108_0, v108_1⟩ := v108
    refine JD_take (i := 7) hp102 rfl (by kernel_rfl) (by kernel_rfl) (by kernel_rfl) wn rfl (ex_index_hole Try.underlying28 ti_29 rfl rfl hy85 (by first | rfl | simp) hL96) ?_
    refine JD_one (i := 8) (by kernel_rfl) ?_
    refine JO_sk rfl wn (sk_store_bx' 2 ti_29 rfl rfl (fun w hh => (hh.cv_mk 3 rfl)) rfl rfl app_fit0 app_set0) (sub_bx 0 rfl) (JD_done (by kernel_rfl) ?_)
    refine N_then (J_region (JL_q wn rfl (ex_fieldAddr fi_31_2 rfl rfl) (JL_sk wn (sk_store_bx' 14 ti_2 rfl rfl (fun w hh => cv_int) rfl rfl rfl rfl) (JL_nt (J_sr (JL_q wn rfl (ex_load_bx_agg 14 ti_31 rfl rfl rfl rfl) (JL_sk wn (sk_store_bx' 11 ti_31 rfl rfl (fun w hh => (cv_aggs ⟨cv_int, cv_int, cv_int, cv_slice, (hh.cv_od 12 rfl), (hh.cv_ow 13 rfl), trivial⟩)) rfl rfl rfl rfl) (JL_nt (J_ret (N_inl1 hK6 rfl (rv_cell 11 rfl rfl ti_31 rfl) (JL_st wn rfl (st_alloc zi_31 rfl) (fun b109 => JL_sk wn (sk_store_bx' 0 ti_31 rfl rfl (fun w hh => (cv_aggs ⟨cv_int, cv_int, cv_int, cv_slice, (hh.cv_od 13 rfl), (hh.cv_ow 14 rfl), trivial⟩)) rfl rfl rfl rfl) (JL_nt (J_sr (JL_st wn rfl (st_buildSlice (vs := []) ([] : List Int) Try.underlying29 ti_2 zi_2 rfl rfl rfl (fun w hh => trivial)) (fun b110 => JA rfl rfl (JL_nt (J_seq (J_sr (JA rfl rfl (JL_nt (J_ctx (fun w2_ hh => SH.hole1_closeL (idx_eq hy85).2.1 (by first | rfl | simp) (show SH _ _ _ (.bx b86 tt95 (L89 ++ [v108_0] ++ R90) :: mkr v108_0 z106 v108_1 :: hol o87 cap88 s20.2.2.1 r17.1.toNat L89 R90 Ba93 Bb94 :: _) from hh.sel [4, 5, 6, 0, 1, 2, 3, 7, 9, 10, 11, 12, 13, 14, 15, 16, 17] rfl)) ?_))))))))))))))))))))))
    refine J_loop' (S := Int × (Ik .u64) × (List Int) × Int) (G := Value) (F_spec_R8Formula_L2 r3 s20) (fun s111 g112 => [(4, .pointer (some ⟨b2, 0, none⟩)), (6, .pointer (some ⟨x5_1, 0, none⟩)), (7, .pointer (some ⟨b109, 0, none⟩)), (8, g112), (9, .int .i64 s111.2.2.2)]) (fun s111 g112 => [.bx b2 31 [.int .i64 0, .int .i64 0, .int .i64 0, .slice none 0 0, .slice none 0 0, .slice none 0 0], .rd x5_0 r3.1, .pr (Sub v0_ p0 x5_0 r3.1), .bx x5_1 71 [x5_0, .int .i64 s111.1, .int .u64 s111.2.1.val], mkr (.slice (some ⟨b86, o87, none⟩) s20.2.2.1.length cap88) (s20.2.2.1.set r17.1.toNat z106) (b86 :: (Ba93 ++ (v108_1 ++ Bb94))), .od 29 g21_2 s20.2.2.2.1 g21_3, .ow 2 g21_4 s20.2.2.2.2.1, .bx b109 31 [.int .i64 r15.1, .int .i64 r17.1, .int .i64 0, (.slice (some ⟨b86, o87, none⟩) s20.2.2.1.length cap88), g21_2, g21_4], .ow 2 g112 s111.2.2.1]) (r97.2.1, r97.2.2, ([] : List Int), 0) (.slice (some ⟨b110, 0, none⟩) 0 0) ⟨rfl, rfl, rfl, rfl, rfl, trivial⟩ [14, 5, 8, 4, 0, 11, 12, 2, 1] rfl rfl (fun s111 g112 => ?_) (fun s111 g112 => ?_)
    ·unfold F_spec_R8Formula_L2
     refine J_seq (J_sr (JM rfl rfl (JL_q wn rfl (ex_fieldAddr fi_31_4 rfl rfl) (JL_q wn rfl (ex_load_bx 7 ti_28 rfl rfl rfl) (JL_q wn rfl (ex_od 5 rfl (ex_len_ow 5 Try.underlying28 rfl rfl)) (JL_q wn rfl (ex_lss rfl rfl) (JL_nt (J_if rfl (fun h113 => ?_) (fun h113 => ?_)))))))))
     ·exact J_skip (N_then (J_seq (J_block (J_region (JM rfl rfl (JM rfl rfl (JL_bnd fun r114 hr115 => JL_callT wn rfl Try.call17 rfl (CaT_of [3] [0, 1, 2, 4, 5, 6, 7, 8] rfl rfl (fun _ => rfl) fun w hh => c_spec_l00Src_pick w x5_1 (⟨r3.1, s111.1, s111.2.1⟩ : Gl00Src) x5_0 _ rfl (hh.handed [3] rfl rfl rfl rfl) (hh.apart [3] rfl (hh.rd 1 rfl)) _ _ hr115) (fun _ => JL_q wn rfl (ex_add rfl rfl) (JL_st wn rfl (st_buildSlice (vs := [.int .i64 (w64 (4 + r114.1))]) ([(w64 (4 + r114.1))] : List Int) Try.underlying29 ti_2 zi_2 rfl rfl rfl (fun w hh => ⟨(Rd.mk_int _ _ _), trivial⟩)) (fun b116 => JL_bnd fun z117 hz118 => JL_st wn rfl (st_append 9 Try.underlying29 ti_2 zi_2 rfl bi_2 rfl rfl rfl rfl (fun w hh => hh.src_ow 0 rfl) hz118) (fun v119 => JA rfl rfl (JL_nil (N_block (N_then (J_region (JM rfl rfl (JL_q wn rfl (ex_add rfl rfl) (JA rfl rfl (JL_nil (N_next' v119 ⟨rfl, rfl, rfl, rfl, rfl, trivial⟩ [2, 3, 4, 1, 5, 6, 7, 8, 9] rfl rfl))))))))))))))))))))
     ·exact J_exit (N_then_exit (N_break' g112 ⟨rfl, rfl, rfl, rfl, rfl, trivial⟩ [0, 1, 2, 3, 4, 5, 6, 7, 8] rfl rfl))
    ·exact N_then (J_sr (JL_q wn rfl (ex_load_bx_agg 7 ti_31 rfl rfl rfl rfl) (JM rfl rfl (JL_sk wn (sk_store_bx' 0 ti_31 rfl rfl (fun w hh => (cv_aggs ⟨cv_int, cv_int, cv_int, (hh.cv_mk 4 rfl), (hh.cv_od 5 rfl), (hh.cv_ow 6 rfl), trivial⟩)) rfl rfl rfl rfl) (JA rfl rfl (JL_nt (J_ret (N_ctx (fun w hh => hh.mktok 4 rfl) (N_ret2 rfl (rv_cell 1 rfl rfl ti_31 rfl) (rv_tmp rfl) (fun w hh => ⟨((.slice (some ⟨b86, o87, none⟩) s20.2.2.1.length cap88), (b86 :: (Ba93 ++ (v108_1 ++ Bb94))), g21_2, g21_3, g21_4, g112), rfl, hh.sel [0, 6, 7, 9] rfl⟩))))))))))
   ·refine J_skip (N_then (J_sr (JL_q wn rfl (ex_load_bx_agg 13 ti_31 rfl rfl rfl rfl) (JL_sk wn (sk_store_bx' 10 ti_31 rfl rfl (fun w hh => (cv_aggs ⟨cv_int, cv_int, cv_int, cv_slice, (hh.cv_od 11 rfl), (hh.cv_ow 12 rfl), trivial⟩)) rfl rfl rfl rfl) (JL_nt (J_ret (N_inl1 hK6 rfl (rv_cell 10 rfl rfl ti_31 rfl) (JL_st wn rfl (st_alloc zi_31 rfl) (fun b120 => JL_sk wn (sk_store_bx' 0 ti_31 rfl rfl (fun w hh => (cv_aggs ⟨cv_int, cv_int, cv_int, cv_slice, (hh.cv_od 12 rfl), (hh.cv_ow 13 rfl), trivial⟩)) rfl rfl rfl rfl) (JL_nt (J_sr (JL_st wn rfl (st_buildSlice (vs := []) ([] : List Int) Try.underlying29 ti_2 zi_2 rfl rfl rfl (fun w hh => trivial)) (fun b121 => JA rfl rfl (JL_nt (J_seq (J_sr (JA rfl rfl (JL_nt (J_ctx (fun w2_ hh => SH.hole1_closeL (idx_eq hy85).2.1 (by first | rfl | simp) (show SH _ _ _ (.bx b86 tt95 (L89 ++ [v91] ++ R90) :: mkr v91 y84 C92 :: hol o87 cap88 s20.2.2.1 r17.1.toNat L89 R90 Ba93 Bb94 :: _) from hh.sel [3, 4, 5, 0, 1, 2, 6, 8, 9, 10, 11, 12, 13, 14, 15, 16] rfl)) ?_)))))))))))))))))))
    refine J_loop' (S := Int × (Ik .u64) × (List Int) × Int) (G := Value) (F_spec_R8Formula_L3 r3 s20) (fun s122 g123 => [(4, .pointer (some ⟨b2, 0, none⟩)), (6, .pointer (some ⟨x5_1, 0, none⟩)), (7, .pointer (some ⟨b120, 0, none⟩)), (8, g123), (9, .int .i64 s122.2.2.2)]) (fun s122 g123 => [.bx b2 31 [.int .i64 0, .int .i64 0, .int .i64 0, .slice none 0 0, .slice none 0 0, .slice none 0 0], .rd x5_0 r3.1, .pr (Sub v0_ p0 x5_0 r3.1), .bx x5_1 71 [x5_0, .int .i64 s122.1, .int .u64 s122.2.1.val], mkr (.slice (some ⟨b86, o87, none⟩) s20.2.2.1.length cap88) (s20.2.2.1.set r17.1.toNat y84) (b86 :: (Ba93 ++ (C92 ++ Bb94))), .od 29 g21_2 s20.2.2.2.1 g21_3, .ow 2 g21_4 s20.2.2.2.2.1, .bx b120 31 [.int .i64 r15.1, .int .i64 r17.1, .int .i64 (w64 (r97.1 - 1)), (.slice (some ⟨b86, o87, none⟩) s20.2.2.1.length cap88), g21_2, g21_4], .ow 2 g123 s122.2.2.1]) (r97.2.1, r97.2.2, ([] : List Int), 0) (.slice (some ⟨b121, 0, none⟩) 0 0) ⟨rfl, rfl, rfl, rfl, rfl, trivial⟩ [13, 4, 7, 3, 0, 10, 11, 2, 1] rfl rfl (fun s122 g123 => ?_) (fun s122 g123 => ?_)
    ·unfold F_spec_R8Formula_L3
     refine J_seq (J_sr (JM rfl rfl (JL_q wn rfl (ex_fieldAddr fi_31_4 rfl rfl) (JL_q wn rfl (ex_load_bx 7 ti_28 rfl rfl rfl) (JL_q wn rfl (ex_od 5 rfl (ex_len_ow 5 Try.underlying28 rfl rfl)) (JL_q wn rfl (ex_lss rfl rfl) (JL_nt (J_if rfl (fun h124 => ?_) (fun h124 => ?_)))))))))
     ·exact J_skip (N_then (J_seq (J_block (J_region (JM rfl rfl (JM rfl rfl (JL_bnd fun r125 hr126 => JL_callT wn rfl Try.call17 rfl (CaT_of [3] [0, 1, 2, 4, 5, 6, 7, 8] rfl rfl (fun _ => rfl) fun w hh => c_spec_l00Src_pick w x5_1 (⟨r3.1, s122.1, s122.2.1⟩ : Gl00Src) x5_0 _ rfl (hh.handed [3] rfl rfl rfl rfl) (hh.apart [3] rfl (hh.rd 1 rfl)) _ _ hr126) (fun _ => JL_q wn rfl (ex_add rfl rfl) (JL_st wn rfl (st_buildSlice (vs := [.int .i64 (w64 (4 + r125.1))]) ([(w64 (4 + r125.1))] : List Int) Try.underlying29 ti_2 zi_2 rfl rfl rfl (fun w hh => ⟨(Rd.mk_int _ _ _), trivial⟩)) (fun b127 => JL_bnd fun z128 hz129 => JL_st wn rfl (st_append 9 Try.underlying29 ti_2 zi_2 rfl bi_2 rfl rfl rfl rfl (fun w hh => hh.src_ow 0 rfl) hz129) (fun v130 => JA rfl rfl (JL_nil (N_block (N_then (J_region (JM rfl rfl (JL_q wn rfl (ex_add rfl rfl) (JA rfl rfl (JL_nil (N_next' v130 ⟨rfl, rfl, rfl, rfl, rfl, trivial⟩ [2, 3, 4, 1, 5, 6, 7, 8, 9] rfl rfl))))))))))))))))))))
     ·exact J_exit (N_then_exit (N_break' g123 ⟨rfl, rfl, rfl, rfl, rfl, trivial⟩ [0, 1, 2, 3, 4, 5, 6, 7, 8] rfl rfl))
    ·exact N_then (J_sr (JL_q wn rfl (ex_load_bx_agg 7 ti_31 rfl rfl rfl rfl) (JM rfl rfl (JL_sk wn (sk_store_bx' 0 ti_31 rfl rfl (fun w hh => (cv_aggs ⟨cv_int, cv_int, cv_int, (hh.cv_mk 4 rfl), (hh.cv_od 5 rfl), (hh.cv_ow 6 rfl), trivial⟩)) rfl rfl rfl rfl) (JA rfl rfl (JL_nt (J_ret (N_ctx (fun w hh => hh.mktok 4 rfl) (N_ret2 rfl (rv_cell 1 rfl rfl ti_31 rfl) (rv_tmp rfl) (fun w hh => ⟨((.slice (some ⟨b86, o87, none⟩) s20.2.2.1.length cap88), (b86 :: (Ba93 ++ (C92 ++ Bb94))), g21_2, g21_3, g21_4, g123), rfl, hh.sel [0, 6, 7, 9] rfl⟩))))))))))
set_option maxHeartbeats 40000000 in
theorem c_impl_within (A : Nat → Prop) (w : World) (hA : ∀ k, A k → k < w.heap.size) (p0 : Int) (p1 : Int) (p2 : Int) (r : Bool) (hr : F_impl_within p0 p1 p2 = some r) :
  Con Try.prog 31 [.int .i64 p0, .int .i64 p1, .int .i64 p2] A w (fun x_ : Unit => .bool r) (fun x_ => []) := by
 refine Con_of (v := fun (r : Bool) (x_ : Unit) => .bool r) (fs := fun r x_ => []) Try.func31 rfl Try.ntmps31 rfl (SH.start hA) rfl ?_ hr
 unfold F_impl_within
 refine J_sr (JA rfl rfl (JL_nt (J_sr (JM rfl rfl (JM rfl rfl (JL_q wn rfl (ex_leq rfl rfl) (JM rfl rfl (JL_cond (fun h1 => ?_) (fun h1 => ?_)))))))))
 ·exact JL_q (wants_some rfl rfl rfl h1) rfl (ex_move rfl) (JL_q (wants_some rfl rfl rfl h1) rfl (ex_move rfl) (JL_q (wants_some rfl rfl rfl h1) rfl (ex_leq rfl rfl) (JL_q wn rfl (ex_pick_true rfl h1 rfl) (JA rfl rfl (JL_nt (J_ret (N_ret1 rfl (rv_tmp rfl) (fun w hh => ⟨(), rfl, hh.sel [] rfl⟩))))))))
 ·exact JL_passed rfl rfl rfl h1 (JL_passed rfl rfl rfl h1 (JL_passed rfl rfl rfl h1 (JL_q wn rfl (ex_pick_false rfl h1 rfl) (JA rfl rfl (JL_nt (J_ret (N_ret1 rfl (rv_tmp rfl) (fun w hh => ⟨(), rfl, hh.sel [] rfl⟩))))))))
set_option maxHeartbeats 40000000 in
theorem c_impl_size_impl_Rule (A : Nat → Prop) (w : World) (hA : ∀ k, A k → k < w.heap.size) (v0_ : Value) (p0 : (List GRule)) (hp0 : Rd A w v0_ p0) (r : Int) (hr : F_impl_size_impl_Rule p0 = some r) :
  Con Try.prog 53 [v0_] A w (fun x_ : Unit => .int .i64 r) (fun x_ => []) := by
 refine Con_of (v := fun (r : Int) (x_ : Unit) => .int .i64 r) (fs := fun r x_ => []) Try.func53 rfl Try.ntmps53 rfl ((SH.start hA).start_rd rfl hp0) rfl ?_ hr
 unfold F_impl_size_impl_Rule
 exact J_sr (JA rfl rfl (JL_nt (J_sr (JM rfl rfl (JL_q wn rfl (ex_len_rd 0 Try.underlying24 rfl rfl) (JA rfl rfl (JL_nt (J_ret (N_ret1 rfl (rv_tmp rfl) (fun w hh => ⟨(), rfl, hh.sel [] rfl⟩))))))))))
set_option maxHeartbeats 40000000 in
theorem c_impl_noRule (A : Nat → Prop) (w : World) (hA : ∀ k, A k → k < w.heap.size)  (r : GRule) (hr : F_impl_noRule  = some r) :
  Con Try.prog 79 [] A w (fun x_ : Unit => .agg #[.int .i64 r.Write, .int .i64 r.Move, .int .i64 r.Next]) (fun x_ => []) := by
 refine Con_of (v := fun (r : GRule) (x_ : Unit) => .agg #[.int .i64 r.Write, .int .i64 r.Move, .int .i64 r.Next]) (fs := fun r x_ => []) Try.func79 rfl Try.ntmps79 rfl (SH.start hA) rfl ?_ hr
 unfold F_impl_noRule
 exact J_sr (JL_st wn rfl (st_alloc zi_88 rfl) (fun b1 => JL_nt (J_sr (JL_q wn rfl (ex_build si_88 rfl (.cons fi_88_2 rfl rfl .nil) (fun w hh => ⟨cv_int, trivial⟩)) (JL_sk wn (sk_store_bx' 0 ti_88 rfl rfl (fun w hh => (cv_aggs ⟨cv_int, cv_int, cv_int, trivial⟩)) rfl rfl rfl rfl) (JL_nt (J_ret (N_ret1 rfl (rv_cell 0 rfl rfl ti_88 rfl) (fun w hh => ⟨(), rfl, hh.sel [] rfl⟩)))))))))
set_option maxHeartbeats 40000000 in
theorem c_impl_isRule (A : Nat → Prop) (w : World) (hA : ∀ k, A k → k < w.heap.size) (v0_ : Value) (p0 : GRule) (hp0 : Rd A w v0_ p0) (r : Bool) (hr : F_impl_isRule p0 = some r) :
  Con Try.prog 60 [v0_] A w (fun x_ : Unit => .bool r) (fun x_ => []) := by
 obtain rfl := GRule.open hp0
 refine Con_of (v := fun (r : Bool) (x_ : Unit) => .bool r) (fs := fun r x_ => []) Try.func60 rfl Try.ntmps60 rfl (SH.start hA) rfl ?_ hr
 unfold F_impl_isRule
 refine J_sr (JL_st wn rfl (st_box' rfl (fun w hh => (cv_aggs ⟨cv_int, cv_int, cv_int, trivial⟩))) (fun b1 => JA rfl rfl (JL_nt (J_seq (J_draw [] (by kernel_rfl) ?_)))))
 refine JP_take (i := 0) [0] [] rfl (by kernel_rfl) (by kernel_rfl) (by kernel_rfl) rfl rfl wn rfl (ex_load_bx_agg 0 ti_88 rfl rfl rfl rfl) ?_
 refine JP_go [0] [] rfl rfl rfl (fun w3 h1_4 hp2 => JD_bnd fun r5 hr6 => JD_one (i := 1) (by kernel_rfl) ?_)
 refine JO_call rfl wn rfl Try.call79 rfl (Ca_of0 fun w hh => c_impl_noRule _ w (fun _ hk => hk.elim)  _ hr6) (fun _ => JD_take (i := 2) hp2 rfl (by kernel_rfl) (by kernel_rfl) (by kernel_rfl) wn rfl (ex_neq_seq_88 rfl rfl) ?_)
 refine JD_take (i := 3) hp2 rfl (by kernel_rfl) (by kernel_rfl) (by kernel_rfl) wn rfl (ex_assign rfl) ?_
 refine JD_done (by kernel_rfl) ?_
 exact N_then (J_ret (N_ret1 rfl (rv_tmp rfl) (fun w hh => ⟨(), rfl, hh.sel [] rfl⟩)))
set_option maxHeartbeats 40000000 in
theorem c_impl_validRule (A : Nat → Prop) (w : World) (hA : ∀ k, A k → k < w.heap.size) (v0_ : Value) (p0 : GMachine) (hp0 : Rd A w v0_ p0) (v1_ : Value) (p1 : GRule) (hp1 : Rd A w v1_ p1) (r : Bool) (hr : F_impl_validRule p0 p1 = some r) :
  Con Try.prog 56 [v0_, v1_] A w (fun x_ : Unit => .bool r) (fun x_ => []) := by
 obtain ⟨v0_0, rfl, hp0_0⟩ := GMachine.open hp0
 obtain rfl := GRule.open hp1
 refine Con_of (v := fun (r : Bool) (x_ : Unit) => .bool r) (fs := fun r x_ => []) Try.func56 rfl Try.ntmps56 rfl ((SH.start hA).start_rd rfl hp0_0) rfl ?_ hr
 unfold F_impl_validRule
 refine J_sr (JL_st wn rfl (st_box' rfl (fun w hh => (cv_aggs ⟨cv_int, cv_int, (hh.cv 0 rfl), trivial⟩))) (fun b1 => JL_st wn rfl (st_box' rfl (fun w hh => (cv_aggs ⟨cv_int, cv_int, cv_int, trivial⟩))) (fun b2 => JA rfl rfl (JL_nt (J_seq (J_sr (JL_q wn rfl (ex_load_bx_agg 0 ti_88 rfl rfl rfl rfl) (JL_bnd fun r3 hr4 => JL_call wn rfl Try.call60 rfl (Ca_of0 fun w hh => c_impl_isRule _ w (fun _ hk => hk.elim) _ _ (GRule.rdmk (Rd.mk_int _ _ _) (Rd.mk_int _ _ _) (Rd.mk_int _ _ _)) _ hr4) (fun _ => JL_q wn rfl (ex_not rfl) (JL_nt (J_if rfl (fun h5 => ?_) (fun h5 => ?_))))))))))))
 ·exact J_sr (JA rfl rfl (JL_nt (J_ret (N_then_ret (N_ret1 rfl (rv_tmp rfl) (fun w hh => ⟨(), rfl, hh.sel [] rfl⟩))))))
 ·refine J_skip (N_then (J_sr (JL_q wn rfl (ex_fieldAddr fi_88_0 rfl rfl) (JL_q wn rfl (ex_load_bx 0 ti_2 rfl rfl rfl) (JL_q wn rfl (ex_fieldAddr fi_26_0 rfl rfl) (JL_q wn rfl (ex_load_bx 1 ti_2 rfl rfl rfl) (JL_q wn rfl (ex_sub rfl rfl) (JL_bnd fun r6 hr7 => JL_call wn rfl Try.call31 rfl (Ca_of0 fun w hh => c_impl_within _ w (fun _ hk => hk.elim) _ _ _ _ hr7) (fun _ => JM rfl rfl (JL_cond (fun h8 => ?_) (fun h8 => ?_)))))))))))
  ·refine JL_q (wants_some rfl rfl rfl h8) rfl (ex_fieldAddr fi_88_1 rfl rfl) (JL_q (wants_some rfl rfl rfl h8) rfl (ex_load_bx 0 ti_2 rfl rfl rfl) (JL_q (wants_some rfl rfl rfl h8) rfl (ex_eql rfl rfl) (JL_q (wants_some rfl rfl rfl h8) rfl (ex_move rfl) (JL_cond (fun h9 => ?_) (fun h9 => ?_)))))
   ·exact JL_passed rfl rfl rfl h9 (JL_passed rfl rfl rfl h9 (JL_passed rfl rfl rfl h9 (JL_q (wants_some rfl rfl rfl h8) rfl (ex_pick_true rfl h9 rfl) (JL_q wn rfl (ex_pick_true rfl h8 rfl) (JM rfl rfl (JL_q (wants_some rfl rfl rfl rfl) rfl (ex_fieldAddr fi_88_2 rfl rfl) (JL_q (wants_some rfl rfl rfl rfl) rfl (ex_load_bx 0 ti_2 rfl rfl rfl) (JL_q (wants_some rfl rfl rfl rfl) rfl (ex_fieldAddr fi_26_1 rfl rfl) (JL_q (wants_some rfl rfl rfl rfl) rfl (ex_load_bx 1 ti_2 rfl rfl rfl) (JL_q (wants_some rfl rfl rfl rfl) rfl (ex_sub rfl rfl) (JL_bnd fun r10 hr11 => JL_call (wants_some rfl rfl rfl rfl) rfl Try.call31 rfl (Ca_of0 fun w hh => c_impl_within _ w (fun _ hk => hk.elim) _ _ _ _ hr11) (fun _ => JL_q wn rfl (ex_pick_true rfl rfl rfl) (JA rfl rfl (JL_nt (J_ret (N_ret1 rfl (rv_tmp rfl) (fun w hh => ⟨(), rfl, hh.sel [] rfl⟩)))))))))))))))))
   ·refine JL_q (wants_some rfl rfl rfl h9) rfl (ex_fieldAddr fi_88_1 rfl rfl) (JL_q (wants_some rfl rfl rfl h9) rfl (ex_load_bx 0 ti_2 rfl rfl rfl) (JL_q (wants_some rfl rfl rfl h9) rfl (ex_eql rfl rfl) (JL_q (wants_some rfl rfl rfl h8) rfl (ex_pick_false rfl h9 rfl) (JL_q wn rfl (ex_pick_true rfl h8 rfl) (JM rfl rfl (JL_cond (fun h12 => ?_) (fun h12 => ?_)))))))
    ·exact JL_q (wants_some rfl rfl rfl h12) rfl (ex_fieldAddr fi_88_2 rfl rfl) (JL_q (wants_some rfl rfl rfl h12) rfl (ex_load_bx 0 ti_2 rfl rfl rfl) (JL_q (wants_some rfl rfl rfl h12) rfl (ex_fieldAddr fi_26_1 rfl rfl) (JL_q (wants_some rfl rfl rfl h12) rfl (ex_load_bx 1 ti_2 rfl rfl rfl) (JL_q (wants_some rfl rfl rfl h12) rfl (ex_sub rfl rfl) (JL_bnd fun r13 hr14 => JL_call (wants_some rfl rfl rfl h12) rfl Try.call31 rfl (Ca_of0 fun w hh => c_impl_within _ w (fun _ hk => hk.elim) _ _ _ _ hr14) (fun _ => JL_q wn rfl (ex_pick_true rfl h12 rfl) (JA rfl rfl (JL_nt (J_ret (N_ret1 rfl (rv_tmp rfl) (fun w hh => ⟨(), rfl, hh.sel [] rfl⟩)))))))))))
    ·exact JL_passed rfl rfl rfl h12 (JL_passed rfl rfl rfl h12 (JL_passed rfl rfl rfl h12 (JL_passed rfl rfl rfl h12 (JL_passed rfl rfl rfl h12 (JL_passed rfl rfl rfl h12 (JL_q wn rfl (ex_pick_false rfl h12 rfl) (JA rfl rfl (JL_nt (J_ret (N_ret1 rfl (rv_tmp rfl) (fun w hh => ⟨(), rfl, hh.sel [] rfl⟩)))))))))))
  ·exact JL_passed rfl rfl rfl h8 (JL_passed rfl rfl rfl h8 (JL_passed rfl rfl rfl h8 (JL_passed rfl rfl rfl h8 (JL_passed_undef rfl rfl rfl (JL_passed_undef rfl rfl rfl (JL_passed_undef rfl rfl rfl (JL_passed rfl rfl rfl h8 (JL_q wn rfl (ex_pick_false rfl h8 rfl) (JM rfl rfl (JL_passed rfl rfl rfl rfl (JL_passed rfl rfl rfl rfl (JL_passed rfl rfl rfl rfl (JL_passed rfl rfl rfl rfl (JL_passed rfl rfl rfl rfl (JL_passed rfl rfl rfl rfl (JL_q wn rfl (ex_pick_false rfl rfl rfl) (JA rfl rfl (JL_nt (J_ret (N_ret1 rfl (rv_tmp rfl) (fun w hh => ⟨(), rfl, hh.sel [] rfl⟩)))))))))))))))))))))
set_option maxHeartbeats 40000000 in
theorem c_impl_ValidMachine_1 (A : Nat → Prop) (w : World) (hA : ∀ k, A k → k < w.heap.size) (v0_ : Value) (p0 : GRule) (hp0 : Rd A w v0_ p0) (v1_ : Value) (p1 : GMachine) (hp1 : RdA A w.heap.size w v1_ p1) (r : Bool) (hr : F_impl_ValidMachine_1 p0 p1 = some r) :
  Con Try.prog 55 [v0_, v1_] A w (fun x_ : Unit => .bool r) (fun x_ => []) := by
 obtain rfl := GRule.open hp0
 refine Con_of (v := fun (r : Bool) (x_ : Unit) => .bool r) (fs := fun r x_ => []) Try.func55 rfl Try.ntmps55 rfl ((SH.start hA).start_pa' rfl hp1) rfl ?_ hr
 unfold F_impl_ValidMachine_1
 exact J_sr (JL_st wn rfl (st_box' rfl (fun w hh => (cv_aggs ⟨cv_int, cv_int, cv_int, trivial⟩))) (fun b1 => JA rfl rfl (JL_nt (J_sr (JL_st wn rfl (st_load_pa_o 1 (GMachine.opens _) ti_26 rfl rfl) (fun v2 => JL_q wn rfl (ex_load_bx_agg 1 ti_88 rfl rfl rfl rfl) (JL_bnd fun r3 hr4 => JL_call wn rfl Try.call56 rfl (Ca_of0 fun w hh => c_impl_validRule _ w (fun _ hk => hk.elim) _ _ (GMachine.rdmk (Rd.mk_int _ _ _) (Rd.mk_int _ _ _) (hh.rd0 0 rfl)) _ _ (GRule.rdmk (Rd.mk_int _ _ _) (Rd.mk_int _ _ _) (Rd.mk_int _ _ _)) _ hr4) (fun _ => JL_q wn rfl (ex_not rfl) (JA rfl rfl (JL_nt (J_ret (N_ret1 rfl (rv_tmp rfl) (fun w hh => ⟨(), rfl, hh.sel [] rfl⟩)))))))))))))
set_option maxHeartbeats 40000000 in
theorem c_slices_IndexFunc_Simpl_Rule_impl_Rule (A : Nat → Prop) (w : World) (hA : ∀ k, A k → k < w.heap.size) (v0_ : Value) (p0 : (List GRule)) (hp0 : Rd A w v0_ p0) (v1_ : Value) (p1 : (GRule → Option Bool)) (hp1 : Clo Try.prog w v1_ p1 .bool) (r : Int) (hr : F_slices_IndexFunc_Simpl_Rule_impl_Rule p0 p1 = some r) :
  Con Try.prog 77 [v0_, v1_] A w (fun x_ : Unit => .int .i64 r) (fun x_ => []) := by
 refine Con_of (v := fun (r : Int) (x_ : Unit) => .int .i64 r) (fs := fun r x_ => []) Try.func77 rfl Try.ntmps77 rfl ((SH.start hA).start_rd rfl hp0) rfl ?_ hr
 unfold F_slices_IndexFunc_Simpl_Rule_impl_Rule
 refine J_sr (JA rfl rfl (JL_nt (J_seq (J_sr (JM rfl rfl (JL_q wn rfl (ex_len_rd 0 Try.underlying24 rfl rfl) (JM rfl rfl (JL_nt (J_loop' (S := Int) (G := Unit) (F_slices_IndexFunc_Simpl_Rule_impl_Rule_L1 p0 p1) (fun s1 _ => [(0, v0_), (1, v1_), (7, .int .i64 (p0.length : Int)), (8, .int .i64 s1)]) (fun s1 _ => [.rd v0_ p0]) 0 () ⟨rfl, rfl, rfl, rfl, trivial⟩ [0] rfl rfl (fun s1 g2 => ?_) (fun s1 g2 => ?_))))))))))
 ·unfold F_slices_IndexFunc_Simpl_Rule_impl_Rule_L1
  refine J_sr (JL_q wn rfl (ex_lss rfl rfl) (JL_nt (J_seq (J_if rfl (fun h3 => ?_) (fun h3 => ?_)))))
  ·refine J_skip (N_then (J_seq (J_block (J_sr (JM rfl rfl (JA rfl rfl (JL_nt (J_sr (JM rfl rfl (JM rfl rfl (JM rfl rfl (JL_bnd fun y4 hy5 => JL_st wn rfl (st_index 0 Try.underlying24 ti_88 rfl rfl rfl hy5) (fun q6 => JL_st wn rfl (st_load_pt_o 0 (GRule.opens _) ti_88 rfl rfl) (fun _ => JL_bnd fun r8 hr9 => JL_clo wn rfl hp1 rfl rfl (fun w hh => (GRule.rdmk (Rd.mk_int _ _ _) (Rd.mk_int _ _ _) (Rd.mk_int _ _ _))) hr9 (JL_nt (J_if rfl (fun h10 => ?_) (fun h10 => ?_)))))))))))))))))
   ·exact J_sr (JM rfl rfl (JA rfl rfl (JL_nt (J_ret (N_block_ret (N_then_ret (N_round_ret (N_then_ret (N_ret1 rfl (rv_tmp rfl) (fun w hh => ⟨(), rfl, hh.sel [] rfl⟩))))))))))
   ·exact J_skip (N_block (N_then (J_region (JL_q wn rfl (ex_add rfl rfl) (JM rfl rfl (JL_nil (N_next' () ⟨rfl, rfl, rfl, rfl, trivial⟩ [1] rfl rfl)))))))
  ·exact J_exit (N_then_exit (N_break' () ⟨rfl, rfl, rfl, rfl, trivial⟩ [0] rfl rfl))
 ·exact N_then (J_sr (JA rfl rfl (JL_nt (J_ret (N_ret1 rfl (rv_tmp rfl) (fun w hh => ⟨(), rfl, hh.sel [] rfl⟩))))))
set_option maxHeartbeats 40000000 in
theorem c_slices_ContainsFunc_Simpl_Rule_impl_Rule (A : Nat → Prop) (w : World) (hA : ∀ k, A k → k < w.heap.size) (v0_ : Value) (p0 : (List GRule)) (hp0 : Rd A w v0_ p0) (v1_ : Value) (p1 : (GRule → Option Bool)) (hp1 : Clo Try.prog w v1_ p1 .bool) (r : Bool) (hr : F_slices_ContainsFunc_Simpl_Rule_impl_Rule p0 p1 = some r) :
  Con Try.prog 54 [v0_, v1_] A w (fun x_ : Unit => .bool r) (fun x_ => []) := by
 refine Con_of (v := fun (r : Bool) (x_ : Unit) => .bool r) (fs := fun r x_ => []) Try.func54 rfl Try.ntmps54 rfl ((SH.start hA).start_rd rfl hp0) rfl ?_ hr
 unfold F_slices_ContainsFunc_Simpl_Rule_impl_Rule
 exact J_sr (JA rfl rfl (JL_nt (J_sr (JM rfl rfl (JM rfl rfl (JL_bnd fun r1 hr2 => JL_call wn rfl Try.call77 rfl (Ca_of0 fun w hh => c_slices_IndexFunc_Simpl_Rule_impl_Rule _ w (fun _ hk => hk.elim) _ _ (hh.rd0 0 rfl) _ _ (hp1.later hh.below) _ hr2) (fun _ => JL_q wn rfl (ex_geq rfl rfl) (JA rfl rfl (JL_nt (J_ret (N_ret1 rfl (rv_tmp rfl) (fun w hh => ⟨(), rfl, hh.sel [] rfl⟩))))))))))))
set_option maxHeartbeats 40000000 in
theorem c_impl_ValidMachine (A : Nat → Prop) (w : World) (hA : ∀ k, A k → k < w.heap.size) (v0_ : Value) (p0 : GMachine) (hp0 : Rd A w v0_ p0) (r : Bool) (hr : F_impl_ValidMachine p0 = some r) :
  Con Try.prog 22 [v0_] A w (fun x_ : Unit => .bool r) (fun x_ => []) := by
 obtain ⟨v0_0, rfl, hp0_0⟩ := GMachine.open hp0
 refine Con_of (v := fun (r : Bool) (x_ : Unit) => .bool r) (fs := fun r x_ => []) Try.func22 rfl Try.ntmps22 rfl ((SH.start hA).start_rd rfl hp0_0) rfl ?_ hr
 unfold F_impl_ValidMachine
 refine J_sr (JL_st wn rfl (st_box' rfl (fun w hh => (cv_aggs ⟨cv_int, cv_int, (hh.cv 0 rfl), trivial⟩))) (fun b1 => JA rfl rfl (JL_nt (J_seq (J_seq (J_draw [] (by kernel_rfl) ?_))))))
 refine JP_take (i := 0) [0, 1] [] rfl (by kernel_rfl) (by kernel_rfl) (by kernel_rfl) rfl rfl wn rfl (ex_fieldAddr fi_26_0 rfl rfl) ?_
 refine JP_take (i := 1) [0, 1] [] rfl (by kernel_rfl) (by kernel_rfl) (by kernel_rfl) rfl rfl wn rfl (ex_load_bx 0 ti_2 rfl rfl rfl) ?_
 refine JP_go [0, 1] [] rfl rfl rfl (fun w3 h1_4 hp2 => JD_bnd fun r5 hr6 => JD_one (i := 2) (by kernel_rfl) ?_)
 refine JO_call rfl wn rfl Try.call31 rfl (Ca_of0 fun w hh => c_impl_within _ w (fun _ hk => hk.elim) _ _ _ _ hr6) (fun _ => JD_take (i := 3) hp2 rfl (by kernel_rfl) (by kernel_rfl) (by kernel_rfl) wn rfl (ex_not rfl) ?_)
 refine JD_take (i := 4) hp2 rfl (by kernel_rfl) (by kernel_rfl) (by kernel_rfl) wn rfl (ex_move rfl) ?_
 refine JD_cond (fun h7 => ?_) (fun h7 => ?_)
 ·refine JD_pass (i := 5) rfl (by kernel_rfl) (by kernel_rfl) (by kernel_rfl) rfl rfl h7 rfl ?_
  refine JD_pass (i := 6) rfl (by kernel_rfl) (by kernel_rfl) (by kernel_rfl) rfl rfl h7 rfl ?_
  refine JD_pass (i := 7) rfl (by kernel_rfl) (by kernel_rfl) (by kernel_rfl) rfl rfl h7 rfl ?_
  refine JD_pass (i := 8) rfl (by kernel_rfl) (by kernel_rfl) (by kernel_rfl) rfl rfl h7 rfl ?_
  refine JD_take (i := 9) hp2 rfl (by kernel_rfl) (by kernel_rfl) (by kernel_rfl) wn rfl (ex_pick_true rfl h7 rfl) ?_
  refine JD_take (i := 10) hp2 rfl (by kernel_rfl) (by kernel_rfl) (by kernel_rfl) wn rfl (ex_move rfl) ?_
  refine JD_pass (i := 11) rfl (by kernel_rfl) (by kernel_rfl) (by kernel_rfl) rfl rfl rfl rfl ?_
  refine JD_pass (i := 12) rfl (by kernel_rfl) (by kernel_rfl) (by kernel_rfl) rfl rfl rfl rfl ?_
  refine JD_pass (i := 13) rfl (by kernel_rfl) (by kernel_rfl) (by kernel_rfl) rfl rfl rfl rfl ?_
  refine JD_pass (i := 14) rfl (by kernel_rfl) (by kernel_rfl) (by kernel_rfl) rfl rfl rfl rfl ?_
  refine JD_pass (i := 15) rfl (by kernel_rfl) (by kernel_rfl) (by kernel_rfl) rfl rfl rfl rfl ?_
  refine JD_pass (i := 16) rfl (by kernel_rfl) (by kernel_rfl) (by kernel_rfl) rfl rfl rfl rfl ?_
  refine JD_pass (i := 17) rfl (by kernel_rfl) (by kernel_rfl) (by kernel_rfl) rfl rfl rfl rfl ?_
  refine JD_pass (i := 18) rfl (by kernel_rfl) (by kernel_rfl) (by kernel_rfl) rfl rfl rfl rfl ?_
  refine JD_pass (i := 19) rfl (by kernel_rfl) (by kernel_rfl) (by kernel_rfl) rfl rfl rfl rfl ?_
  refine JD_take (i := 20) hp2 rfl (by kernel_rfl) (by kernel_rfl) (by kernel_rfl) wn rfl (ex_pick_true rfl rfl rfl) ?_
  refine JD_done (by kernel_rfl) ?_
  exact N_then (J_if_true rfl rfl (J_sr (JA rfl rfl (JL_nt (J_ret (N_then_ret (N_ret1 rfl (rv_tmp rfl) (fun w hh => ⟨(), rfl, hh.sel [] rfl⟩))))))))
 ·refine JD_take (i := 5) hp2 rfl (by kernel_rfl) (by kernel_rfl) (by kernel_rfl) (wants_some rfl rfl rfl h7) rfl (ex_fieldAddr fi_26_1 rfl rfl) ?_
  refine JD_take (i := 6) hp2 rfl (by kernel_rfl) (by kernel_rfl) (by kernel_rfl) (wants_some rfl rfl rfl h7) rfl (ex_load_bx 0 ti_2 rfl rfl rfl) ?_
  refine JD_bnd fun r8 hr9 => JD_one (i := 7) (by kernel_rfl) ?_
  refine JO_call rfl (wants_some rfl rfl rfl h7) rfl Try.call31 rfl (Ca_of0 fun w hh => c_impl_within _ w (fun _ hk => hk.elim) _ _ _ _ hr9) (fun _ => JD_take (i := 8) hp2 rfl (by kernel_rfl) (by kernel_rfl) (by kernel_rfl) (wants_some rfl rfl rfl h7) rfl (ex_not rfl) ?_)
  refine JD_take (i := 9) hp2 rfl (by kernel_rfl) (by kernel_rfl) (by kernel_rfl) wn rfl (ex_pick_false rfl h7 rfl) ?_
  refine JD_take (i := 10) hp2 rfl (by kernel_rfl) (by kernel_rfl) (by kernel_rfl) wn rfl (ex_move rfl) ?_
  refine JD_cond (fun h10 => ?_) (fun h10 => ?_)
  ·refine JD_pass (i := 11) rfl (by kernel_rfl) (by kernel_rfl) (by kernel_rfl) rfl rfl h10 rfl ?_
   refine JD_pass (i := 12) rfl (by kernel_rfl) (by kernel_rfl) (by kernel_rfl) rfl rfl h10 rfl ?_
   refine JD_pass (i := 13) rfl (by kernel_rfl) (by kernel_rfl) (by kernel_rfl) rfl rfl h10 rfl ?_
   refine JD_pass (i := 14) rfl (by kernel_rfl) (by kernel_rfl) (by kernel_rfl) rfl rfl h10 rfl ?_
   refine JD_pass (i := 15) rfl (by kernel_rfl) (by kernel_rfl) (by kernel_rfl) rfl rfl h10 rfl ?_
   refine JD_pass (i := 16) rfl (by kernel_rfl) (by kernel_rfl) (by kernel_rfl) rfl rfl h10 rfl ?_
   refine JD_pass (i := 17) rfl (by kernel_rfl) (by kernel_rfl) (by kernel_rfl) rfl rfl h10 rfl ?_
   refine JD_pass (i := 18) rfl (by kernel_rfl) (by kernel_rfl) (by kernel_rfl) rfl rfl h10 rfl ?_
   refine JD_pass (i := 19) rfl (by kernel_rfl) (by kernel_rfl) (by kernel_rfl) rfl rfl h10 rfl ?_
   refine JD_take (i := 20) hp2 rfl (by kernel_rfl) (by kernel_rfl) (by kernel_rfl) wn rfl (ex_pick_true rfl h10 rfl) ?_
   refine JD_done (by kernel_rfl) ?_
   exact N_then (J_if_true rfl rfl (J_sr (JA rfl rfl (JL_nt (J_ret (N_then_ret (N_ret1 rfl (rv_tmp rfl) (fun w hh => ⟨(), rfl, hh.sel [] rfl⟩))))))))
  ·refine JD_take (i := 11) hp2 rfl (by kernel_rfl) (by kernel_rfl) (by kernel_rfl) (wants_some rfl rfl rfl h10) rfl (ex_fieldAddr fi_26_2 rfl rfl) ?_
   refine JD_take (i := 12) hp2 rfl (by kernel_rfl) (by kernel_rfl) (by kernel_rfl) (wants_some rfl rfl rfl h10) rfl (ex_load_bx 0 ti_24 rfl rfl rfl) ?_
   refine JD_take (i := 14) hp2 rfl (by kernel_rfl) (by kernel_rfl) (by kernel_rfl) (wants_some rfl rfl rfl h10) rfl (ex_fieldAddr fi_26_1 rfl rfl) ?_
   refine JD_take (i := 15) hp2 rfl (by kernel_rfl) (by kernel_rfl) (by kernel_rfl) (wants_some rfl rfl rfl h10) rfl (ex_load_bx 0 ti_2 rfl rfl rfl) ?_
   refine JD_take (i := 16) hp2 rfl (by kernel_rfl) (by kernel_rfl) (by kernel_rfl) (wants_some rfl rfl rfl h10) rfl (ex_fieldAddr fi_26_0 rfl rfl) ?_
   refine JD_take (i := 17) hp2 rfl (by kernel_rfl) (by kernel_rfl) (by kernel_rfl) (wants_some rfl rfl rfl h10) rfl (ex_load_bx 0 ti_2 rfl rfl rfl) ?_
   refine JD_take (i := 18) hp2 rfl (by kernel_rfl) (by kernel_rfl) (by kernel_rfl) (wants_some rfl rfl rfl h10) rfl (ex_mul rfl rfl) ?_
   refine JD_bnd fun r11 hr12 => JD_one (i := 13) (by kernel_rfl) ?_
   refine JO_call rfl (wants_some rfl rfl rfl h10) rfl Try.call53 rfl (Ca_of0 fun w hh => c_impl_size_impl_Rule _ w (fun _ hk => hk.elim) _ _ (hh.rd0 1 rfl) _ hr12) (fun _ => JD_take (i := 19) hp2 rfl (by kernel_rfl) (by kernel_rfl) (by kernel_rfl) (wants_some rfl rfl rfl h10) rfl (ex_neq rfl rfl) ?_)
   refine JD_take (i := 20) hp2 rfl (by kernel_rfl) (by kernel_rfl) (by kernel_rfl) wn rfl (ex_pick_false rfl h10 rfl) ?_
   refine JD_done (by kernel_rfl) ?_
   refine N_then (J_if rfl (fun h13 => ?_) (fun h13 => ?_))
   ·exact J_sr (JA rfl rfl (JL_nt (J_ret (N_then_ret (N_ret1 rfl (rv_tmp rfl) (fun w hh => ⟨(), rfl, hh.sel [] rfl⟩))))))
   ·exact J_skip (N_then (J_sr (JL_q wn rfl (ex_fieldAddr fi_26_2 rfl rfl) (JL_q wn rfl (ex_load_bx 0 ti_24 rfl rfl rfl) (JL_q wn rfl (ex_makeFunc rfl) (JL_bnd fun r14 hr15 => JL_call wn rfl Try.call54 rfl (Ca_of0 fun w hh => c_slices_ContainsFunc_Simpl_Rule_impl_Rule _ w (fun _ hk => hk.elim) _ _ (hh.rd0 1 rfl) _ _ (Clo.mk (caps := [.pointer (some ⟨b1, 0, none⟩)]) Try.call55 (fun w_ hb_ v_ x_ r_ hrd_ hr_ => c_impl_ValidMachine_1 nowhere w_ (fun _ hk => hk.elim) v_ x_ hrd_ _ _ ((hh.bx_pa 0 rfl (GMachine.rdmk (Rd.mk_int _ _ _) (Rd.mk_int _ _ _) (hh.rd0 1 rfl)) rfl).later hb_) _ hr_)) _ hr15) (fun _ => JL_q wn rfl (ex_not rfl) (JA rfl rfl (JL_nt (J_ret (N_ret1 rfl (rv_tmp rfl) (fun w hh => ⟨(), rfl, hh.sel [] rfl⟩))))))))))))
set_option maxHeartbeats 40000000 in
theorem c_impl_size_Sint64 (A : Nat → Prop) (w : World) (hA : ∀ k, A k → k < w.heap.size) (v0_ : Value) (p0 : (List (List Int))) (hp0 : Rd A w v0_ p0) (r : Int) (hr : F_impl_size_Sint64 p0 = some r) :
  Con Try.prog 57 [v0_] A w (fun x_ : Unit => .int .i64 r) (fun x_ => []) := by
 refine Con_of (v := fun (r : Int) (x_ : Unit) => .int .i64 r) (fs := fun r x_ => []) Try.func57 rfl Try.ntmps57 rfl ((SH.start hA).start_rd rfl hp0) rfl ?_ hr
 unfold F_impl_size_Sint64
 exact J_sr (JA rfl rfl (JL_nt (J_sr (JM rfl rfl (JL_q wn rfl (ex_len_rd 0 Try.underlying28 rfl rfl) (JA rfl rfl (JL_nt (J_ret (N_ret1 rfl (rv_tmp rfl) (fun w hh => ⟨(), rfl, hh.sel [] rfl⟩))))))))))
set_option maxHeartbeats 40000000 in
theorem c_impl_size_int64 (A : Nat → Prop) (w : World) (hA : ∀ k, A k → k < w.heap.size) (v0_ : Value) (p0 : (List Int)) (hp0 : Rd A w v0_ p0) (r : Int) (hr : F_impl_size_int64 p0 = some r) :
  Con Try.prog 58 [v0_] A w (fun x_ : Unit => .int .i64 r) (fun x_ => []) := by
 refine Con_of (v := fun (r : Int) (x_ : Unit) => .int .i64 r) (fs := fun r x_ => []) Try.func58 rfl Try.ntmps58 rfl ((SH.start hA).start_rd rfl hp0) rfl ?_ hr
 unfold F_impl_size_int64
 exact J_sr (JA rfl rfl (JL_nt (J_sr (JM rfl rfl (JL_q wn rfl (ex_len_rd 0 Try.underlying29 rfl rfl) (JA rfl rfl (JL_nt (J_ret (N_ret1 rfl (rv_tmp rfl) (fun w hh => ⟨(), rfl, hh.sel [] rfl⟩))))))))))
set_option maxHeartbeats 40000000 in
theorem c_impl_allWithin (A : Nat → Prop) (w : World) (hA : ∀ k, A k → k < w.heap.size) (v0_ : Value) (p0 : (List Int)) (hp0 : Rd A w v0_ p0) (p1 : Int) (p2 : Int) (r : Bool) (hr : F_impl_allWithin p0 p1 p2 = some r) :
  Con Try.prog 18 [v0_, .int .i64 p1, .int .i64 p2] A w (fun x_ : Unit => .bool r) (fun x_ => []) := by
 refine Con_of (v := fun (r : Bool) (x_ : Unit) => .bool r) (fs := fun r x_ => []) Try.func18 rfl Try.ntmps18 rfl ((SH.start hA).start_rd rfl hp0) rfl ?_ hr
 unfold F_impl_allWithin
 refine J_sr (JA rfl rfl (JL_nt (J_seq (J_sr (JM rfl rfl (JL_q wn rfl (ex_len_rd 0 Try.underlying29 rfl rfl) (JM rfl rfl (JL_nt (J_loop' (S := Int) (G := Unit) (F_impl_allWithin_L1 p0 p1 p2) (fun s1 _ => [(1, .int .i64 p1), (2, .int .i64 p2), (9, v0_), (10, .int .i64 (p0.length : Int)), (11, .int .i64 s1)]) (fun s1 _ => [.rd v0_ p0]) 0 () ⟨rfl, rfl, rfl, rfl, rfl, trivial⟩ [0] rfl rfl (fun s1 g2 => ?_) (fun s1 g2 => ?_))))))))))
 ·unfold F_impl_allWithin_L1
  refine J_sr (JL_q wn rfl (ex_lss rfl rfl) (JL_nt (J_seq (J_if rfl (fun h3 => ?_) (fun h3 => ?_)))))
  ·refine J_skip (N_then (J_seq (J_block (J_sr (JL_bnd fun y4 hy5 => JL_st wn rfl (st_index 0 Try.underlying29 ti_2 rfl rfl rfl hy5) (fun q6 => JL_st wn rfl (st_load_pt_o 0 (opens_int _) ti_2 rfl rfl) (fun _ => JA rfl rfl (JL_nt (J_sr (JM rfl rfl (JM rfl rfl (JM rfl rfl (JL_bnd fun r8 hr9 => JL_call wn rfl Try.call31 rfl (Ca_of0 fun w hh => c_impl_within _ w (fun _ hk => hk.elim) _ _ _ _ hr9) (fun _ => JL_q wn rfl (ex_not rfl) (JL_nt (J_if rfl (fun h10 => ?_) (fun h10 => ?_)))))))))))))))))
   ·exact J_sr (JA rfl rfl (JL_nt (J_ret (N_block_ret (N_then_ret (N_round_ret (N_then_ret (N_ret1 rfl (rv_tmp rfl) (fun w hh => ⟨(), rfl, hh.sel [] rfl⟩)))))))))
   ·exact J_skip (N_block (N_then (J_region (JL_q wn rfl (ex_add rfl rfl) (JM rfl rfl (JL_nil (N_next' () ⟨rfl, rfl, rfl, rfl, rfl, trivial⟩ [1] rfl rfl)))))))
  ·exact J_exit (N_then_exit (N_break' () ⟨rfl, rfl, rfl, rfl, rfl, trivial⟩ [0] rfl rfl))
 ·exact N_then (J_sr (JA rfl rfl (JL_nt (J_ret (N_ret1 rfl (rv_tmp rfl) (fun w hh => ⟨(), rfl, hh.sel [] rfl⟩))))))
end Go.Proofs.Ytgpimmdigeobbaa
