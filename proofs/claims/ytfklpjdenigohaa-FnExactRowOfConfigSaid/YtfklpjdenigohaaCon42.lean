/-
  Each function of the program computes what its plain function says: printed by program. No condition.
-/
import Derived.Test.YtfklpjdenigohaaFn
import Derived.Test.YtfklpjdenigohaaInf
import Derived.Test.YtfklpjdenigohaaCon1
import Derived.Test.YtfklpjdenigohaaCon2
import Derived.Test.YtfklpjdenigohaaCon5
import Derived.Test.YtfklpjdenigohaaCon7
import Derived.Test.YtfklpjdenigohaaCon10
import Derived.Test.YtfklpjdenigohaaCon13
import Derived.Test.YtfklpjdenigohaaCon14
import Derived.Test.YtfklpjdenigohaaCon26
import Derived.Test.YtfklpjdenigohaaCon34
namespace Go.Proofs.Ytfklpjdenigohaa
open Go Go.Tc Go.Fn
set_option linter.unusedVariables false

set_option maxHeartbeats 4000000 in
theorem c_spec_l33Place (A : Nat → Prop) (w : World) (hA : ∀ k, A k → k < w.heap.size) (p0 : Int) (p1 : Int) (r : Bool) (hr : F_spec_l33Place p0 p1 = some r) :
    Con Try.prog 103 [.int .i64 p0, .int .i64 p1] A w (fun x_ : Unit => .bool r) (fun x_ => []) := by
  refine Con_of (v := fun (r : Bool) (x_ : Unit) => .bool r) (fs := fun r x_ => []) Try.func103 rfl Try.ntmps103 rfl (SH.start hA) rfl ?_ hr
  unfold F_spec_l33Place
  refine J_seq ?_
  refine J_region ?_
  refine JL_q (wants_none rfl) rfl (ex_assign rfl) ?_
  refine JL_nil ?_
  refine N_then ?_
  refine J_seq ?_
  refine J_region ?_
  refine JL_q (wants_none rfl) rfl (ex_move rfl) ?_
  refine JL_bnd fun r1 hr2 => ?_
  refine JL_call (wants_none rfl) rfl Try.call143 rfl (Ca_of0 fun w hh => c_spec_l00In _ w (fun _ hk => hk.elim) _ _ _ _ hr2) (fun _ => ?_)
  refine JL_q (wants_none rfl) rfl (ex_move rfl) ?_
  refine JL_cond (fun h3 => ?_) (fun h3 => ?_)
  · refine JL_q (wants_some rfl rfl rfl h3) rfl (ex_move rfl) ?_
    refine JL_q (wants_some rfl rfl rfl h3) rfl (ex_move rfl) ?_
    refine JL_q (wants_some rfl rfl rfl h3) rfl (ex_sub rfl rfl) ?_
    refine JL_bnd fun r4 hr5 => ?_
    refine JL_call (wants_some rfl rfl rfl h3) rfl Try.call143 rfl (Ca_of0 fun w hh => c_spec_l00In _ w (fun _ hk => hk.elim) _ _ _ _ hr5) (fun _ => ?_)
    refine JL_q (wants_none rfl) rfl (ex_pick_true rfl h3 rfl) ?_
    refine JL_q (wants_none rfl) rfl (ex_assign rfl) ?_
    refine JL_nil ?_
    refine N_then ?_
    refine J_ret ?_
    exact N_ret1 rfl (rv_tmp rfl) (fun w hh => ⟨(), rfl, hh.sel [] rfl⟩)
  · refine JL_passed rfl rfl rfl h3 ?_
    refine JL_passed rfl rfl rfl h3 ?_
    refine JL_passed rfl rfl rfl h3 ?_
    refine JL_passed rfl rfl rfl h3 ?_
    refine JL_q (wants_none rfl) rfl (ex_pick_false rfl h3 rfl) ?_
    refine JL_q (wants_none rfl) rfl (ex_assign rfl) ?_
    refine JL_nil ?_
    refine N_then ?_
    refine J_ret ?_
    exact N_ret1 rfl (rv_tmp rfl) (fun w hh => ⟨(), rfl, hh.sel [] rfl⟩)

set_option maxHeartbeats 4000000 in
theorem c_spec_l13Cell (A : Nat → Prop) (w : World) (hA : ∀ k, A k → k < w.heap.size) (v0_ : Value) (p0 : (List Int)) (hp0 : Rd A w v0_ p0) (p1 : Int) (r : Int) (hr : F_spec_l13Cell p0 p1 = some r) :
    Con Try.prog 214 [v0_, .int .i64 p1] A w (fun x_ : Unit => .int .i64 r) (fun x_ => []) := by
  refine Con_of (v := fun (r : Int) (x_ : Unit) => .int .i64 r) (fs := fun r x_ => []) Try.func214 rfl Try.ntmps214 rfl ((SH.start hA).start_rd rfl hp0) rfl ?_ hr
  unfold F_spec_l13Cell
  refine J_seq ?_
  refine J_region ?_
  refine JL_q (wants_none rfl) rfl (ex_assign rfl) ?_
  refine JL_nil ?_
  refine N_then ?_
  refine J_seq ?_
  refine J_seq ?_
  refine J_region ?_
  refine JL_q (wants_none rfl) rfl (ex_move rfl) ?_
  refine JL_q (wants_none rfl) rfl (ex_move rfl) ?_
  refine JL_q (wants_none rfl) rfl (ex_len_rd 0 Try.underlying31 rfl rfl) ?_
  refine JL_q (wants_none rfl) rfl (ex_lss rfl rfl) ?_
  refine JL_nil ?_
  refine N_then ?_
  refine J_if rfl (fun h1 => ?_) (fun h1 => ?_)
  · refine J_seq ?_
    refine J_region ?_
    refine JL_q (wants_none rfl) rfl (ex_move rfl) ?_
    refine JL_q (wants_none rfl) rfl (ex_move rfl) ?_
    refine JL_bnd fun y2 hy3 => ?_
    refine JL_st (wants_none rfl) rfl (st_index 0 Try.underlying31 ti_2 rfl rfl rfl hy3) (fun q4 => ?_)
    refine JL_st (wants_none rfl) rfl (st_load_pt_o 0 (opens_int _) ti_2 rfl rfl) (fun _ => ?_)
    refine JL_q (wants_none rfl) rfl (ex_assign rfl) ?_
    refine JL_nil ?_
    refine N_then ?_
    refine J_ret ?_
    refine N_then_ret ?_
    exact N_ret1 rfl (rv_tmp rfl) (fun w hh => ⟨(), rfl, hh.sel [] rfl⟩)
  · refine J_skip ?_
    refine N_then ?_
    refine J_seq ?_
    refine J_region ?_
    refine JL_q (wants_none rfl) rfl (ex_assign rfl) ?_
    refine JL_nil ?_
    refine N_then ?_
    refine J_ret ?_
    exact N_ret1 rfl (rv_tmp rfl) (fun w hh => ⟨(), rfl, hh.sel [] rfl⟩)

set_option maxHeartbeats 4000000 in
theorem c_spec_l33Colors (A : Nat → Prop) (w : World) (hA : ∀ k, A k → k < w.heap.size) (v0_ : Value) (p0 : GMachine) (hp0 : RdA A w.heap.size w v0_ p0) (v1_ : Value) (p1 : GConfig) (hp1 : RdA A w.heap.size w v1_ p1) (p2 : Int) (p3 : Int) (r : (List Int) × Bool) (hr : F_spec_l33Colors p0 p1 p2 p3 = some r) :
    Con Try.prog 180 [v0_, v1_, .int .i64 p2, .int .i64 p3] A w (fun x_ : Value => .tuple #[x_, .bool r.2]) (fun x_ => [.ow 2 x_ r.1]) := by
  refine Con_of (v := fun (r : (List Int) × Bool) (x_ : Value) => .tuple #[x_, .bool r.2]) (fs := fun r x_ => [.ow 2 x_ r.1]) Try.func180 rfl Try.ntmps180 rfl (((SH.start hA).start_pa' rfl hp0).start_pa' rfl hp1) rfl ?_ hr
  unfold F_spec_l33Colors
  refine J_seq ?_
  refine J_region ?_
  refine JL_q (wants_none rfl) rfl (ex_assign rfl) ?_
  refine JL_q (wants_none rfl) rfl (ex_assign rfl) ?_
  refine JL_nil ?_
  refine N_then ?_
  refine J_seq ?_
  refine J_region ?_
  refine JL_st (wants_none rfl) rfl (st_buildSlice (vs := []) ([] : List Int) Try.underlying31 ti_2 zi_2 rfl rfl rfl (fun w hh => trivial)) (fun b1 => ?_)
  refine JL_q (wants_none rfl) rfl (ex_assign rfl) ?_
  refine JL_nil ?_
  refine N_then ?_
  refine J_seq ?_
  refine J_seq ?_
  refine J_region ?_
  refine JL_q (wants_none rfl) rfl (ex_assign rfl) ?_
  refine JL_nil ?_
  refine N_then ?_
  refine J_loop' (S := (List Int) × Int) (G := Value) (F_spec_l33Colors_L1 p1 p2 p3) (fun s2 g3 => [(0, v0_), (1, v1_), (2, .int .i64 p2), (3, .int .i64 p3), (10, g3), (11, .int .i64 s2.2)]) (fun s2 g3 => [.pa v0_ p0, .pa v1_ p1, .ow 2 g3 s2.1]) (([] : List Int), 0) (.slice (some ⟨b1, 0, none⟩) 0 0) ⟨rfl, rfl, rfl, rfl, rfl, rfl, trivial⟩ [2, 1, 0] rfl rfl (fun s2 g3 => ?_) (fun s2 g3 => ?_)
  · unfold F_spec_l33Colors_L1
    refine J_seq ?_
    refine J_seq ?_
    refine J_region ?_
    refine JL_q (wants_none rfl) rfl (ex_move rfl) ?_
    refine JL_q (wants_none rfl) rfl (ex_move rfl) ?_
    refine JL_q (wants_none rfl) rfl (ex_lss rfl rfl) ?_
    refine JL_nil ?_
    refine N_then ?_
    refine J_if rfl (fun h4 => ?_) (fun h4 => ?_)
    · refine J_skip ?_
      refine N_then ?_
      refine J_seq ?_
      refine J_block ?_
      refine J_seq ?_
      refine J_region ?_
      refine JL_q (wants_none rfl) rfl (ex_move rfl) ?_
      refine JL_q (wants_none rfl) rfl (ex_move rfl) ?_
      refine JL_q (wants_none rfl) rfl (ex_lss rfl rfl) ?_
      refine JL_nil ?_
      refine N_then ?_
      refine J_if rfl (fun h5 => ?_) (fun h5 => ?_)
      · refine J_region ?_
        refine JL_q (wants_none rfl) rfl (ex_move rfl) ?_
        refine JL_q (wants_none rfl) rfl (ex_move rfl) ?_
        refine JL_q (wants_none rfl) rfl (ex_nilCheck_pa 1 rfl rfl) ?_
        refine JL_st (wants_none rfl) rfl (st_field_pa 1 (GConfig.at_Left _) fi_34_1 rfl rfl rfl) (fun q6 => ?_)
        refine JL_st (wants_none rfl) rfl (st_load_pa_o 0 (opens_sl _) ti_31 rfl rfl) (fun v7 => ?_)
        refine JL_q (wants_none rfl) rfl (ex_move rfl) ?_
        refine JL_q (wants_none rfl) rfl (ex_sub rfl rfl) ?_
        refine JL_q (wants_none rfl) rfl (ex_move rfl) ?_
        refine JL_q (wants_none rfl) rfl (ex_sub rfl rfl) ?_
        refine JL_bnd fun r8 hr9 => ?_
        refine JL_call (wants_none rfl) rfl Try.call214 rfl (Ca_of0 fun w hh => c_spec_l13Cell _ w (fun _ hk => hk.elim) _ _ (hh.rd0 0 rfl) _ _ hr9) (fun _ => ?_)
        refine JL_st (wants_none rfl) rfl (st_buildSlice (vs := [.int .i64 r8]) ([r8] : List Int) Try.underlying31 ti_2 zi_2 rfl rfl rfl (fun w hh => ⟨(Rd.mk_int _ _ _), trivial⟩)) (fun b10 => ?_)
        refine JL_bnd fun z11 hz12 => ?_
        refine JL_st (wants_none rfl) rfl (st_append 5 Try.underlying31 ti_2 zi_2 rfl bi_2 rfl rfl rfl rfl (fun w hh => hh.src_ow 0 rfl) hz12) (fun v13 => ?_)
        refine JL_q (wants_none rfl) rfl (ex_assign rfl) ?_
        refine JL_nil ?_
        refine N_block ?_
        refine N_then ?_
        refine J_region ?_
        refine JL_q (wants_none rfl) rfl (ex_move rfl) ?_
        refine JL_q (wants_none rfl) rfl (ex_add rfl rfl) ?_
        refine JL_q (wants_none rfl) rfl (ex_assign rfl) ?_
        refine JL_nil ?_
        exact N_next' v13 ⟨rfl, rfl, rfl, rfl, rfl, rfl, trivial⟩ [3, 4, 5] rfl rfl
      · refine J_region ?_
        refine JL_q (wants_none rfl) rfl (ex_move rfl) ?_
        refine JL_q (wants_none rfl) rfl (ex_move rfl) ?_
        refine JL_q (wants_none rfl) rfl (ex_nilCheck_pa 1 rfl rfl) ?_
        refine JL_st (wants_none rfl) rfl (st_field_pa 1 (GConfig.at_Right _) fi_34_2 rfl rfl rfl) (fun q14 => ?_)
        refine JL_st (wants_none rfl) rfl (st_load_pa_o 0 (opens_sl _) ti_31 rfl rfl) (fun v15 => ?_)
        refine JL_q (wants_none rfl) rfl (ex_move rfl) ?_
        refine JL_q (wants_none rfl) rfl (ex_move rfl) ?_
        refine JL_q (wants_none rfl) rfl (ex_sub rfl rfl) ?_
        refine JL_bnd fun r16 hr17 => ?_
        refine JL_call (wants_none rfl) rfl Try.call214 rfl (Ca_of0 fun w hh => c_spec_l13Cell _ w (fun _ hk => hk.elim) _ _ (hh.rd0 0 rfl) _ _ hr17) (fun _ => ?_)
        refine JL_st (wants_none rfl) rfl (st_buildSlice (vs := [.int .i64 r16]) ([r16] : List Int) Try.underlying31 ti_2 zi_2 rfl rfl rfl (fun w hh => ⟨(Rd.mk_int _ _ _), trivial⟩)) (fun b18 => ?_)
        refine JL_bnd fun z19 hz20 => ?_
        refine JL_st (wants_none rfl) rfl (st_append 5 Try.underlying31 ti_2 zi_2 rfl bi_2 rfl rfl rfl rfl (fun w hh => hh.src_ow 0 rfl) hz20) (fun v21 => ?_)
        refine JL_q (wants_none rfl) rfl (ex_assign rfl) ?_
        refine JL_nil ?_
        refine N_block ?_
        refine N_then ?_
        refine J_region ?_
        refine JL_q (wants_none rfl) rfl (ex_move rfl) ?_
        refine JL_q (wants_none rfl) rfl (ex_add rfl rfl) ?_
        refine JL_q (wants_none rfl) rfl (ex_assign rfl) ?_
        refine JL_nil ?_
        exact N_next' v21 ⟨rfl, rfl, rfl, rfl, rfl, rfl, trivial⟩ [3, 4, 5] rfl rfl
    · refine J_exit ?_
      refine N_then_exit ?_
      exact N_break' g3 ⟨rfl, rfl, rfl, rfl, rfl, rfl, trivial⟩ [0, 1, 2] rfl rfl
  · refine N_then ?_
    refine J_seq ?_
    refine J_draw [2] (by kernel_rfl) ?_
    refine JP_take (i := 0) [0, 1] [2] rfl (by kernel_rfl) (by kernel_rfl) (by kernel_rfl) rfl rfl (wants_none rfl) rfl (ex_move rfl) ?_
    refine JP_take (i := 1) [0, 1] [2] rfl (by kernel_rfl) (by kernel_rfl) (by kernel_rfl) rfl rfl (wants_none rfl) rfl (ex_move rfl) ?_
    refine JP_take (i := 2) [0, 1] [2] rfl (by kernel_rfl) (by kernel_rfl) (by kernel_rfl) rfl rfl (wants_none rfl) rfl (ex_move rfl) ?_
    refine JP_take (i := 3) [0, 1] [2] rfl (by kernel_rfl) (by kernel_rfl) (by kernel_rfl) rfl rfl (wants_none rfl) rfl (ex_move rfl) ?_
    refine JP_take (i := 4) [0, 1] [2] rfl (by kernel_rfl) (by kernel_rfl) (by kernel_rfl) rfl rfl (wants_none rfl) rfl (ex_nilCheck_pa 1 rfl rfl) ?_
    refine JP_sq (i := 5) [2] rfl (by kernel_rfl) (by kernel_rfl) (by kernel_rfl) rfl (wants_none rfl) rfl (sq_field_pa 1 (GConfig.at_State _) fi_34_0 rfl rfl rfl) (fun q22 => ?_)
    refine JP_sq (i := 6) [3] rfl (by kernel_rfl) (by kernel_rfl) (by kernel_rfl) rfl (wants_none rfl) rfl (sq_load_pa_o 0 (opens_int _) ti_2 rfl rfl) (fun _ => ?_)
    refine JP_take (i := 7) [0, 1, 2] [3] rfl (by kernel_rfl) (by kernel_rfl) (by kernel_rfl) rfl rfl (wants_none rfl) rfl (ex_move rfl) ?_
    refine JP_take (i := 8) [0, 1, 2] [3] rfl (by kernel_rfl) (by kernel_rfl) (by kernel_rfl) rfl rfl (wants_none rfl) rfl (ex_move rfl) ?_
    refine JP_bnd fun y24 hy25 => ?_
    refine JP_ow_open (v := g3) 3 rfl hy25 ?_; rintro b26 cap27 rfl
    refine JP_take (i := 9) [0, 1, 2] [3] rfl (by kernel_rfl) (by kernel_rfl) (by kernel_rfl) rfl rfl (wants_none rfl) rfl (ex_index_own Try.underlying31 ti_2 rfl rfl hy25 (by first | rfl | simp)) ?_
    refine JP_go [0, 1, 2] [3] rfl rfl rfl (fun w29 h1_30 hp28 => ?_)
    refine JD_one (i := 10) (by kernel_rfl) ?_
    refine JO_q rfl (wants_none rfl) rfl (ex_load_ow_int 3 ti_2 rfl rfl hy25) ?_
    refine JD_bnd fun r32 hr33 => ?_
    refine JD_one (i := 11) (by kernel_rfl) ?_
    refine JO_call rfl (wants_none rfl) rfl Try.call190 rfl (Ca_of0 fun w hh => c_spec_l33Head _ w (fun _ hk => hk.elim) _ _ (hh.pa0 1 rfl) _ _ _ hr33) (fun _ => ?_)
    refine JD_bnd fun y34 hy35 => ?_
    refine JD_take (i := 12) hp28 rfl (by kernel_rfl) (by kernel_rfl) (by kernel_rfl) (wants_none rfl) rfl (ex_index_own Try.underlying31 ti_2 rfl rfl hy35 (by first | rfl | simp)) ?_
    refine JD_one (i := 13) (by kernel_rfl) ?_
    refine JO_sk rfl (wants_none rfl) (sk_store_ow 3 ti_2 rfl rfl rfl hy35 (fun w hh => (Rd.mk_int _ _ _))) (sub_owl 0 rfl) ?_
    refine JD_done (by kernel_rfl) ?_
    refine N_then ?_
    refine J_seq ?_
    refine J_draw [] (by kernel_rfl) ?_
    refine JP_take (i := 0) [0, 1, 2, 3] [] rfl (by kernel_rfl) (by kernel_rfl) (by kernel_rfl) rfl rfl (wants_none rfl) rfl (ex_move rfl) ?_
    refine JP_take (i := 1) [0, 1, 2, 3] [] rfl (by kernel_rfl) (by kernel_rfl) (by kernel_rfl) rfl rfl (wants_none rfl) rfl (ex_move rfl) ?_
    refine JP_take (i := 2) [0, 1, 2, 3] [] rfl (by kernel_rfl) (by kernel_rfl) (by kernel_rfl) rfl rfl (wants_none rfl) rfl (ex_nilCheck_pa 2 rfl rfl) ?_
    refine JP_sq (i := 3) [] rfl (by kernel_rfl) (by kernel_rfl) (by kernel_rfl) rfl (wants_none rfl) rfl (sq_field_pa 2 (GConfig.at_Left _) fi_34_1 rfl rfl rfl) (fun q36 => ?_)
    refine JP_sq (i := 4) [] rfl (by kernel_rfl) (by kernel_rfl) (by kernel_rfl) rfl (wants_none rfl) rfl (sq_load_pa_o 0 (opens_sl _) ti_31 rfl rfl) (fun v37 => ?_)
    refine JP_take (i := 5) [0, 1, 2, 3, 4, 5] [] rfl (by kernel_rfl) (by kernel_rfl) (by kernel_rfl) rfl rfl (wants_none rfl) rfl (ex_len_rd 0 Try.underlying31 rfl rfl) ?_
    refine JP_take (i := 6) [0, 1, 2, 3, 4, 5] [] rfl (by kernel_rfl) (by kernel_rfl) (by kernel_rfl) rfl rfl (wants_none rfl) rfl (ex_move rfl) ?_
    refine JP_take (i := 7) [0, 1, 2, 3, 4, 5] [] rfl (by kernel_rfl) (by kernel_rfl) (by kernel_rfl) rfl rfl (wants_none rfl) rfl (ex_leq rfl rfl) ?_
    refine JP_take (i := 8) [0, 1, 2, 3, 4, 5] [] rfl (by kernel_rfl) (by kernel_rfl) (by kernel_rfl) rfl rfl (wants_none rfl) rfl (ex_move rfl) ?_
    refine JP_cond (fun h38 => ?_) (fun h38 => ?_)
    · refine JP_take (i := 9) [0, 1, 2, 3, 4, 5] [] rfl (by kernel_rfl) (by kernel_rfl) (by kernel_rfl) rfl rfl (wants_some rfl rfl rfl h38) rfl (ex_move rfl) ?_
      refine JP_take (i := 10) [0, 1, 2, 3, 4, 5] [] rfl (by kernel_rfl) (by kernel_rfl) (by kernel_rfl) rfl rfl (wants_some rfl rfl rfl h38) rfl (ex_nilCheck_pa 4 rfl rfl) ?_
      refine JP_sq (i := 11) [] rfl (by kernel_rfl) (by kernel_rfl) (by kernel_rfl) rfl (wants_some rfl rfl rfl h38) rfl (sq_field_pa 4 (GConfig.at_Right _) fi_34_2 rfl rfl rfl) (fun q39 => ?_)
      refine JP_sq (i := 12) [] rfl (by kernel_rfl) (by kernel_rfl) (by kernel_rfl) rfl (wants_some rfl rfl rfl h38) rfl (sq_load_pa_o 0 (opens_sl _) ti_31 rfl rfl) (fun v40 => ?_)
      refine JP_take (i := 13) [0, 1, 2, 3, 4, 5, 6, 7] [] rfl (by kernel_rfl) (by kernel_rfl) (by kernel_rfl) rfl rfl (wants_some rfl rfl rfl h38) rfl (ex_len_rd 0 Try.underlying31 rfl rfl) ?_
      refine JP_take (i := 14) [0, 1, 2, 3, 4, 5, 6, 7] [] rfl (by kernel_rfl) (by kernel_rfl) (by kernel_rfl) rfl rfl (wants_some rfl rfl rfl h38) rfl (ex_move rfl) ?_
      refine JP_take (i := 15) [0, 1, 2, 3, 4, 5, 6, 7] [] rfl (by kernel_rfl) (by kernel_rfl) (by kernel_rfl) rfl rfl (wants_some rfl rfl rfl h38) rfl (ex_move rfl) ?_
      refine JP_take (i := 16) [0, 1, 2, 3, 4, 5, 6, 7] [] rfl (by kernel_rfl) (by kernel_rfl) (by kernel_rfl) rfl rfl (wants_some rfl rfl rfl h38) rfl (ex_sub rfl rfl) ?_
      refine JP_take (i := 17) [0, 1, 2, 3, 4, 5, 6, 7] [] rfl (by kernel_rfl) (by kernel_rfl) (by kernel_rfl) rfl rfl (wants_some rfl rfl rfl h38) rfl (ex_leq rfl rfl) ?_
      refine JP_take (i := 18) [0, 1, 2, 3, 4, 5, 6, 7] [] rfl (by kernel_rfl) (by kernel_rfl) (by kernel_rfl) rfl rfl (wants_none rfl) rfl (ex_pick_true rfl h38 rfl) ?_
      refine JP_take (i := 19) [0, 1, 2, 3, 4, 5, 6, 7] [] rfl (by kernel_rfl) (by kernel_rfl) (by kernel_rfl) rfl rfl (wants_none rfl) rfl (ex_assign rfl) ?_
      refine JP_take (i := 20) [0, 1, 2, 3, 4, 5, 6, 7] [] rfl (by kernel_rfl) (by kernel_rfl) (by kernel_rfl) rfl rfl (wants_none rfl) rfl (ex_assign rfl) ?_
      refine JP_go [] [] rfl rfl rfl (fun _ _ _ => ?_)
      refine JD_done (by kernel_rfl) ?_
      refine N_then ?_
      refine J_ret ?_
      exact N_ret2 rfl (rv_tmp rfl) (rv_tmp rfl) (fun w hh => ⟨(.slice (some ⟨b26, 0, none⟩) s2.1.length cap27), rfl, hh.sel [7] rfl⟩)
    · refine JP_pass (i := 9) rfl (by kernel_rfl) (by kernel_rfl) (by kernel_rfl) rfl rfl h38 rfl ?_
      refine JP_pass (i := 10) rfl (by kernel_rfl) (by kernel_rfl) (by kernel_rfl) rfl rfl h38 rfl ?_
      refine JP_pass (i := 11) rfl (by kernel_rfl) (by kernel_rfl) (by kernel_rfl) rfl rfl h38 rfl ?_
      refine JP_pass (i := 12) rfl (by kernel_rfl) (by kernel_rfl) (by kernel_rfl) rfl rfl h38 rfl ?_
      refine JP_pass (i := 13) rfl (by kernel_rfl) (by kernel_rfl) (by kernel_rfl) rfl rfl h38 rfl ?_
      refine JP_pass (i := 14) rfl (by kernel_rfl) (by kernel_rfl) (by kernel_rfl) rfl rfl h38 rfl ?_
      refine JP_pass (i := 15) rfl (by kernel_rfl) (by kernel_rfl) (by kernel_rfl) rfl rfl h38 rfl ?_
      refine JP_pass (i := 16) rfl (by kernel_rfl) (by kernel_rfl) (by kernel_rfl) rfl rfl h38 rfl ?_
      refine JP_pass (i := 17) rfl (by kernel_rfl) (by kernel_rfl) (by kernel_rfl) rfl rfl h38 rfl ?_
      refine JP_take (i := 18) [0, 1, 2, 3, 4, 5] [] rfl (by kernel_rfl) (by kernel_rfl) (by kernel_rfl) rfl rfl (wants_none rfl) rfl (ex_pick_false rfl h38 rfl) ?_
      refine JP_take (i := 19) [0, 1, 2, 3, 4, 5] [] rfl (by kernel_rfl) (by kernel_rfl) (by kernel_rfl) rfl rfl (wants_none rfl) rfl (ex_assign rfl) ?_
      refine JP_take (i := 20) [0, 1, 2, 3, 4, 5] [] rfl (by kernel_rfl) (by kernel_rfl) (by kernel_rfl) rfl rfl (wants_none rfl) rfl (ex_assign rfl) ?_
      refine JP_go [] [] rfl rfl rfl (fun _ _ _ => ?_)
      refine JD_done (by kernel_rfl) ?_
      refine N_then ?_
      refine J_ret ?_
      exact N_ret2 rfl (rv_tmp rfl) (rv_tmp rfl) (fun w hh => ⟨(.slice (some ⟨b26, 0, none⟩) s2.1.length cap27), rfl, hh.sel [5] rfl⟩)

set_option maxHeartbeats 4000000 in
theorem c_spec_l33Start (A : Nat → Prop) (w : World) (hA : ∀ k, A k → k < w.heap.size) (v0_ : Value) (p0 : GMachine) (hp0 : RdA A w.heap.size w v0_ p0) (v1_ : Value) (p1 : GConfig) (hp1 : RdA A w.heap.size w v1_ p1) (p2 : Int) (p3 : Int) (r : (List Int) × Int) (hr : F_spec_l33Start p0 p1 p2 p3 = some r) :
    Con Try.prog 104 [v0_, v1_, .int .i64 p2, .int .i64 p3] A w (fun x_ : Value => .tuple #[x_, .int .i64 r.2]) (fun x_ => [.ow 2 x_ r.1]) := by
  refine Con_of (v := fun (r : (List Int) × Int) (x_ : Value) => .tuple #[x_, .int .i64 r.2]) (fs := fun r x_ => [.ow 2 x_ r.1]) Try.func104 rfl Try.ntmps104 rfl (((SH.start hA).start_pa' rfl hp0).start_pa' rfl hp1) rfl ?_ hr
  unfold F_spec_l33Start
  refine J_seq ?_
  refine J_region ?_
  refine JL_q (wants_none rfl) rfl (ex_assign rfl) ?_
  refine JL_q (wants_none rfl) rfl (ex_assign rfl) ?_
  refine JL_nil ?_
  refine N_then ?_
  refine J_seq ?_
  refine J_region ?_
  refine JL_q (wants_none rfl) rfl (ex_move rfl) ?_
  refine JL_q (wants_none rfl) rfl (ex_move rfl) ?_
  refine JL_q (wants_none rfl) rfl (ex_move rfl) ?_
  refine JL_q (wants_none rfl) rfl (ex_move rfl) ?_
  refine JL_bnd fun r1 hr2 => ?_
  refine JL_call (wants_none rfl) rfl Try.call180 rfl (Ca_self (fun _ => rfl) fun w hh => c_spec_l33Colors _ w (fun _ hk => hk.elim) _ _ (hh.pa0 1 rfl) _ _ (hh.pa0 0 rfl) _ _ _ hr2) (fun x3 => ?_)
  refine JL_q (wants_none rfl) rfl (ex_move rfl) ?_
  refine JL_q (wants_none rfl) rfl (ex_extract rfl rfl) ?_
  refine JL_q (wants_none rfl) rfl (ex_extract rfl rfl) ?_
  refine JL_q (wants_none rfl) rfl (ex_assign rfl) ?_
  refine JL_q (wants_none rfl) rfl (ex_assign rfl) ?_
  refine JL_nil ?_
  refine N_then ?_
  refine J_seq ?_
  refine J_seq ?_
  refine J_region ?_
  refine JL_q (wants_none rfl) rfl (ex_move rfl) ?_
  refine JL_q (wants_none rfl) rfl (ex_not rfl) ?_
  refine JL_nil ?_
  refine N_then ?_
  refine J_if rfl (fun h4 => ?_) (fun h4 => ?_)
  · refine J_seq ?_
    refine J_region ?_
    refine JL_q (wants_none rfl) rfl (ex_assign rfl) ?_
    refine JL_q (wants_none rfl) rfl (ex_assign rfl) ?_
    refine JL_nil ?_
    refine N_then ?_
    refine J_ret ?_
    refine N_then_ret ?_
    refine N_ctx (fun w hh => SH.ow_nil (α := Int) 2 hh) ?_
    exact N_ret2 rfl (rv_tmp rfl) (rv_tmp rfl) (fun w hh => ⟨(.slice none 0 0 : Value), rfl, hh.sel [0] rfl⟩)
  · refine J_skip ?_
    refine N_then ?_
    refine J_seq ?_
    refine J_region ?_
    refine JL_q (wants_none rfl) rfl (ex_move rfl) ?_
    refine JL_q (wants_none rfl) rfl (ex_assign rfl) ?_
    refine JL_q (wants_none rfl) rfl (ex_assign rfl) ?_
    refine JL_nil ?_
    refine N_then ?_
    refine J_ret ?_
    exact N_ret2 rfl (rv_tmp rfl) (rv_tmp rfl) (fun w hh => ⟨x3, rfl, hh.sel [0] rfl⟩)

set_option maxHeartbeats 4000000 in
theorem c_spec_RowOfConfig (A : Nat → Prop) (w : World) (hA : ∀ k, A k → k < w.heap.size) (v0_ : Value) (p0 : GMachine) (hp0 : Rd A w v0_ p0) (v1_ : Value) (p1 : GConfig) (hp1 : Rd A w v1_ p1) (p2 : Int) (p3 : Int) (r : (List Int) × Int) (hr : F_spec_RowOfConfig p0 p1 p2 p3 = some r) :
    Con Try.prog 51 [v0_, v1_, .int .i64 p2, .int .i64 p3] A w (fun x_ : Value => .tuple #[x_, .int .i64 r.2]) (fun x_ => [.ow 2 x_ r.1]) := by
  obtain ⟨v0_0, rfl, hp0_0⟩ := GMachine.open hp0
  obtain ⟨v1_0, v1_1, rfl, hp1_0, hp1_1⟩ := GConfig.open hp1
  refine Con_of (v := fun (r : (List Int) × Int) (x_ : Value) => .tuple #[x_, .int .i64 r.2]) (fs := fun r x_ => [.ow 2 x_ r.1]) Try.func51 rfl Try.ntmps51 rfl ((((SH.start hA).start_rd rfl hp0_0).start_rd rfl hp1_0).start_rd rfl hp1_1) rfl ?_ hr
  unfold F_spec_RowOfConfig
  refine J_seq ?_
  refine J_region ?_
  refine JL_st (wants_none rfl) rfl (st_box' rfl (fun w hh => (cv_aggs ⟨cv_int, cv_int, (hh.cv 2 rfl), trivial⟩))) (fun b1 => ?_)
  refine JL_st (wants_none rfl) rfl (st_box' rfl (fun w hh => (cv_aggs ⟨cv_int, (hh.cv 2 rfl), (hh.cv 1 rfl), trivial⟩))) (fun b2 => ?_)
  refine JL_q (wants_none rfl) rfl (ex_assign rfl) ?_
  refine JL_q (wants_none rfl) rfl (ex_assign rfl) ?_
  refine JL_nil ?_
  refine N_then ?_
  refine J_seq ?_
  refine J_seq ?_
  refine J_region ?_
  refine JL_bnd fun r3 hr4 => ?_
  refine JL_call (wants_none rfl) rfl Try.call77 rfl (Ca_of0 fun w hh => c_spec_l05Is _ w (fun _ hk => hk.elim) _ _ (hh.bx_pa 1 rfl (GMachine.rdmk (Rd.mk_int _ _ _) (Rd.mk_int _ _ _) (hh.rd0 4 rfl)) rfl) _ hr4) (fun _ => ?_)
  refine JL_q (wants_none rfl) rfl (ex_not rfl) ?_
  refine JL_q (wants_none rfl) rfl (ex_move rfl) ?_
  refine JL_cond (fun h5 => ?_) (fun h5 => ?_)
  · refine JL_passed rfl rfl rfl h5 ?_
    refine JL_passed rfl rfl rfl h5 ?_
    refine JL_q (wants_none rfl) rfl (ex_pick_true rfl h5 rfl) ?_
    refine JL_nil ?_
    refine N_then ?_
    refine J_if_true rfl rfl ?_
    refine J_seq ?_
    refine J_region ?_
    refine JL_q (wants_none rfl) rfl (ex_assign rfl) ?_
    refine JL_q (wants_none rfl) rfl (ex_assign rfl) ?_
    refine JL_nil ?_
    refine N_then ?_
    refine J_ret ?_
    refine N_then_ret ?_
    refine N_ctx (fun w hh => SH.ow_nil (α := Int) 2 hh) ?_
    exact N_ret2 rfl (rv_tmp rfl) (rv_tmp rfl) (fun w hh => ⟨(.slice none 0 0 : Value), rfl, hh.sel [0] rfl⟩)
  · refine JL_bnd fun r6 hr7 => ?_
    refine JL_call (wants_some rfl rfl rfl h5) rfl Try.call95 rfl (Ca_of0 fun w hh => c_spec_l05Good _ w (fun _ hk => hk.elim) _ _ (hh.bx_pa 1 rfl (GMachine.rdmk (Rd.mk_int _ _ _) (Rd.mk_int _ _ _) (hh.rd0 4 rfl)) rfl) _ _ (hh.bx_pa 0 rfl (GConfig.rdmk (Rd.mk_int _ _ _) (hh.rd0 3 rfl) (hh.rd0 2 rfl)) rfl) _ hr7) (fun _ => ?_)
    refine JL_q (wants_some rfl rfl rfl h5) rfl (ex_not rfl) ?_
    refine JL_q (wants_none rfl) rfl (ex_pick_false rfl h5 rfl) ?_
    refine JL_nil ?_
    refine N_then ?_
    refine J_if rfl (fun h8 => ?_) (fun h8 => ?_)
    · refine J_seq ?_
      refine J_region ?_
      refine JL_q (wants_none rfl) rfl (ex_assign rfl) ?_
      refine JL_q (wants_none rfl) rfl (ex_assign rfl) ?_
      refine JL_nil ?_
      refine N_then ?_
      refine J_ret ?_
      refine N_then_ret ?_
      refine N_ctx (fun w hh => SH.ow_nil (α := Int) 2 hh) ?_
      exact N_ret2 rfl (rv_tmp rfl) (rv_tmp rfl) (fun w hh => ⟨(.slice none 0 0 : Value), rfl, hh.sel [0] rfl⟩)
    · refine J_skip ?_
      refine N_then ?_
      refine J_seq ?_
      refine J_seq ?_
      refine J_region ?_
      refine JL_q (wants_none rfl) rfl (ex_move rfl) ?_
      refine JL_q (wants_none rfl) rfl (ex_move rfl) ?_
      refine JL_bnd fun r9 hr10 => ?_
      refine JL_call (wants_none rfl) rfl Try.call103 rfl (Ca_of0 fun w hh => c_spec_l33Place _ w (fun _ hk => hk.elim) _ _ _ hr10) (fun _ => ?_)
      refine JL_q (wants_none rfl) rfl (ex_not rfl) ?_
      refine JL_nil ?_
      refine N_then ?_
      refine J_if rfl (fun h11 => ?_) (fun h11 => ?_)
      · refine J_seq ?_
        refine J_region ?_
        refine JL_q (wants_none rfl) rfl (ex_assign rfl) ?_
        refine JL_q (wants_none rfl) rfl (ex_assign rfl) ?_
        refine JL_nil ?_
        refine N_then ?_
        refine J_ret ?_
        refine N_then_ret ?_
        refine N_ctx (fun w hh => SH.ow_nil (α := Int) 2 hh) ?_
        exact N_ret2 rfl (rv_tmp rfl) (rv_tmp rfl) (fun w hh => ⟨(.slice none 0 0 : Value), rfl, hh.sel [0] rfl⟩)
      · refine J_skip ?_
        refine N_then ?_
        refine J_seq ?_
        refine J_region ?_
        refine JL_q (wants_none rfl) rfl (ex_move rfl) ?_
        refine JL_q (wants_none rfl) rfl (ex_move rfl) ?_
        refine JL_bnd fun r12 hr13 => ?_
        refine JL_call (wants_none rfl) rfl Try.call104 rfl (Ca_self (fun _ => rfl) fun w hh => c_spec_l33Start _ w (fun _ hk => hk.elim) _ _ (hh.bx_pa 1 rfl (GMachine.rdmk (Rd.mk_int _ _ _) (Rd.mk_int _ _ _) (hh.rd0 4 rfl)) rfl) _ _ (hh.bx_pa 0 rfl (GConfig.rdmk (Rd.mk_int _ _ _) (hh.rd0 3 rfl) (hh.rd0 2 rfl)) rfl) _ _ _ hr13) (fun x14 => ?_)
        refine JL_q (wants_none rfl) rfl (ex_extract rfl rfl) ?_
        refine JL_q (wants_none rfl) rfl (ex_extract rfl rfl) ?_
        refine JL_q (wants_none rfl) rfl (ex_assign rfl) ?_
        refine JL_q (wants_none rfl) rfl (ex_assign rfl) ?_
        refine JL_nil ?_
        refine N_then ?_
        refine J_ret ?_
        exact N_ret2 rfl (rv_tmp rfl) (rv_tmp rfl) (fun w hh => ⟨x14, rfl, hh.sel [0] rfl⟩)

set_option maxHeartbeats 4000000 in
theorem c_impl_rowCode (A : Nat → Prop) (w : World) (hA : ∀ k, A k → k < w.heap.size) (p0 : Int) (p1 : Int) (r : Int) (hr : F_impl_rowCode p0 p1 = some r) :
    Con Try.prog 105 [.int .i64 p0, .int .i64 p1] A w (fun x_ : Unit => .int .i64 r) (fun x_ => []) := by
  refine Con_of (v := fun (r : Int) (x_ : Unit) => .int .i64 r) (fs := fun r x_ => []) Try.func105 rfl Try.ntmps105 rfl (SH.start hA) rfl ?_ hr
  unfold F_impl_rowCode
  refine J_seq ?_
  refine J_region ?_
  refine JL_q (wants_none rfl) rfl (ex_assign rfl) ?_
  refine JL_nil ?_
  refine N_then ?_
  refine J_seq ?_
  refine J_seq ?_
  refine J_region ?_
  refine JL_q (wants_none rfl) rfl (ex_move rfl) ?_
  refine JL_bnd fun r1 hr2 => ?_
  refine JL_call (wants_none rfl) rfl Try.call81 rfl (Ca_of0 fun w hh => c_impl_within _ w (fun _ hk => hk.elim) _ _ _ _ hr2) (fun _ => ?_)
  refine JL_q (wants_none rfl) rfl (ex_not rfl) ?_
  refine JL_q (wants_none rfl) rfl (ex_move rfl) ?_
  refine JL_cond (fun h3 => ?_) (fun h3 => ?_)
  · refine JL_passed rfl rfl rfl h3 ?_
    refine JL_passed rfl rfl rfl h3 ?_
    refine JL_passed rfl rfl rfl h3 ?_
    refine JL_passed rfl rfl rfl h3 ?_
    refine JL_passed rfl rfl rfl h3 ?_
    refine JL_q (wants_none rfl) rfl (ex_pick_true rfl h3 rfl) ?_
    refine JL_nil ?_
    refine N_then ?_
    refine J_if_true rfl rfl ?_
    refine J_seq ?_
    refine J_region ?_
    refine JL_q (wants_none rfl) rfl (ex_assign rfl) ?_
    refine JL_nil ?_
    refine N_then ?_
    refine J_ret ?_
    refine N_then_ret ?_
    exact N_ret1 rfl (rv_tmp rfl) (fun w hh => ⟨(), rfl, hh.sel [] rfl⟩)
  · refine JL_q (wants_some rfl rfl rfl h3) rfl (ex_move rfl) ?_
    refine JL_q (wants_some rfl rfl rfl h3) rfl (ex_move rfl) ?_
    refine JL_q (wants_some rfl rfl rfl h3) rfl (ex_sub rfl rfl) ?_
    refine JL_bnd fun r4 hr5 => ?_
    refine JL_call (wants_some rfl rfl rfl h3) rfl Try.call81 rfl (Ca_of0 fun w hh => c_impl_within _ w (fun _ hk => hk.elim) _ _ _ _ hr5) (fun _ => ?_)
    refine JL_q (wants_some rfl rfl rfl h3) rfl (ex_not rfl) ?_
    refine JL_q (wants_none rfl) rfl (ex_pick_false rfl h3 rfl) ?_
    refine JL_nil ?_
    refine N_then ?_
    refine J_if rfl (fun h6 => ?_) (fun h6 => ?_)
    · refine J_seq ?_
      refine J_region ?_
      refine JL_q (wants_none rfl) rfl (ex_assign rfl) ?_
      refine JL_nil ?_
      refine N_then ?_
      refine J_ret ?_
      refine N_then_ret ?_
      exact N_ret1 rfl (rv_tmp rfl) (fun w hh => ⟨(), rfl, hh.sel [] rfl⟩)
    · refine J_skip ?_
      refine N_then ?_
      refine J_seq ?_
      refine J_region ?_
      refine JL_q (wants_none rfl) rfl (ex_assign rfl) ?_
      refine JL_nil ?_
      refine N_then ?_
      refine J_ret ?_
      exact N_ret1 rfl (rv_tmp rfl) (fun w hh => ⟨(), rfl, hh.sel [] rfl⟩)

set_option maxHeartbeats 4000000 in
theorem c_impl_symbolAt (A : Nat → Prop) (w : World) (hA : ∀ k, A k → k < w.heap.size) (v0_ : Value) (p0 : (List Int)) (hp0 : Rd A w v0_ p0) (p1 : Int) (r : Int) (hr : F_impl_symbolAt p0 p1 = some r) :
    Con Try.prog 215 [v0_, .int .i64 p1] A w (fun x_ : Unit => .int .i64 r) (fun x_ => []) := by
  refine Con_of (v := fun (r : Int) (x_ : Unit) => .int .i64 r) (fs := fun r x_ => []) Try.func215 rfl Try.ntmps215 rfl ((SH.start hA).start_rd rfl hp0) rfl ?_ hr
  unfold F_impl_symbolAt
  refine J_seq ?_
  refine J_region ?_
  refine JL_q (wants_none rfl) rfl (ex_assign rfl) ?_
  refine JL_nil ?_
  refine N_then ?_
  refine J_seq ?_
  refine J_seq ?_
  refine J_region ?_
  refine JL_q (wants_none rfl) rfl (ex_move rfl) ?_
  refine JL_q (wants_none rfl) rfl (ex_move rfl) ?_
  refine JL_q (wants_none rfl) rfl (ex_len_rd 0 Try.underlying31 rfl rfl) ?_
  refine JL_q (wants_none rfl) rfl (ex_geq rfl rfl) ?_
  refine JL_nil ?_
  refine N_then ?_
  refine J_if rfl (fun h1 => ?_) (fun h1 => ?_)
  · refine J_seq ?_
    refine J_region ?_
    refine JL_q (wants_none rfl) rfl (ex_assign rfl) ?_
    refine JL_nil ?_
    refine N_then ?_
    refine J_ret ?_
    refine N_then_ret ?_
    exact N_ret1 rfl (rv_tmp rfl) (fun w hh => ⟨(), rfl, hh.sel [] rfl⟩)
  · refine J_skip ?_
    refine N_then ?_
    refine J_seq ?_
    refine J_region ?_
    refine JL_q (wants_none rfl) rfl (ex_move rfl) ?_
    refine JL_q (wants_none rfl) rfl (ex_move rfl) ?_
    refine JL_bnd fun y2 hy3 => ?_
    refine JL_st (wants_none rfl) rfl (st_index 0 Try.underlying31 ti_2 rfl rfl rfl hy3) (fun q4 => ?_)
    refine JL_st (wants_none rfl) rfl (st_load_pt_o 0 (opens_int _) ti_2 rfl rfl) (fun _ => ?_)
    refine JL_q (wants_none rfl) rfl (ex_assign rfl) ?_
    refine JL_nil ?_
    refine N_then ?_
    refine J_ret ?_
    exact N_ret1 rfl (rv_tmp rfl) (fun w hh => ⟨(), rfl, hh.sel [] rfl⟩)

set_option maxHeartbeats 4000000 in
theorem c_impl_cellsFrom (A : Nat → Prop) (w : World) (hA : ∀ k, A k → k < w.heap.size) (v0_ : Value) (p0 : (List Int)) (hp0 : Rd A w v0_ p0) (p1 : Int) (p2 : Int) (r : (List Int)) (hr : F_impl_cellsFrom p0 p1 p2 = some r) :
    Con Try.prog 181 [v0_, .int .i64 p1, .int .i64 p2] A w (fun x_ : Value => x_) (fun x_ => [.ow 2 x_ r]) := by
  refine Con_of (v := fun (r : (List Int)) (x_ : Value) => x_) (fs := fun r x_ => [.ow 2 x_ r]) Try.func181 rfl Try.ntmps181 rfl ((SH.start hA).start_rd rfl hp0) rfl ?_ hr
  unfold F_impl_cellsFrom
  refine J_seq ?_
  refine J_region ?_
  refine JL_q (wants_none rfl) rfl (ex_assign rfl) ?_
  refine JL_nil ?_
  refine N_then ?_
  refine J_seq ?_
  refine J_region ?_
  refine JL_st (wants_none rfl) rfl (st_buildSlice (vs := []) ([] : List Int) Try.underlying31 ti_2 zi_2 rfl rfl rfl (fun w hh => trivial)) (fun b1 => ?_)
  refine JL_q (wants_none rfl) rfl (ex_assign rfl) ?_
  refine JL_nil ?_
  refine N_then ?_
  refine J_seq ?_
  refine J_seq ?_
  refine J_region ?_
  refine JL_q (wants_none rfl) rfl (ex_move rfl) ?_
  refine JL_q (wants_none rfl) rfl (ex_move rfl) ?_
  refine JL_nil ?_
  refine N_then ?_
  refine J_loop' (S := (List Int) × Int) (G := Value) (F_impl_cellsFrom_L1 p0 p1 p2) (fun s2 g3 => [(0, v0_), (1, .int .i64 p1), (7, g3), (10, .int .i64 p2), (11, .int .i64 s2.2)]) (fun s2 g3 => [.rd v0_ p0, .ow 2 g3 s2.1]) (([] : List Int), 0) (.slice (some ⟨b1, 0, none⟩) 0 0) ⟨rfl, rfl, rfl, rfl, rfl, trivial⟩ [1, 0] rfl rfl (fun s2 g3 => ?_) (fun s2 g3 => ?_)
  · unfold F_impl_cellsFrom_L1
    refine J_seq ?_
    refine J_region ?_
    refine JL_q (wants_none rfl) rfl (ex_lss rfl rfl) ?_
    refine JL_nil ?_
    refine N_then ?_
    refine J_seq ?_
    refine J_if rfl (fun h4 => ?_) (fun h4 => ?_)
    · refine J_skip ?_
      refine N_then ?_
      refine J_seq ?_
      refine J_block ?_
      refine J_seq ?_
      refine J_region ?_
      refine JL_q (wants_none rfl) rfl (ex_move rfl) ?_
      refine JL_q (wants_none rfl) rfl (ex_assign rfl) ?_
      refine JL_nil ?_
      refine N_then ?_
      refine J_region ?_
      refine JL_q (wants_none rfl) rfl (ex_move rfl) ?_
      refine JL_q (wants_none rfl) rfl (ex_move rfl) ?_
      refine JL_q (wants_none rfl) rfl (ex_move rfl) ?_
      refine JL_q (wants_none rfl) rfl (ex_move rfl) ?_
      refine JL_q (wants_none rfl) rfl (ex_add rfl rfl) ?_
      refine JL_bnd fun r5 hr6 => ?_
      refine JL_call (wants_none rfl) rfl Try.call215 rfl (Ca_of0 fun w hh => c_impl_symbolAt _ w (fun _ hk => hk.elim) _ _ (hh.rd0 0 rfl) _ _ hr6) (fun _ => ?_)
      refine JL_st (wants_none rfl) rfl (st_buildSlice (vs := [.int .i64 r5]) ([r5] : List Int) Try.underlying31 ti_2 zi_2 rfl rfl rfl (fun w hh => ⟨(Rd.mk_int _ _ _), trivial⟩)) (fun b7 => ?_)
      refine JL_bnd fun z8 hz9 => ?_
      refine JL_st (wants_none rfl) rfl (st_append 2 Try.underlying31 ti_2 zi_2 rfl bi_2 rfl rfl rfl rfl (fun w hh => hh.src_ow 0 rfl) hz9) (fun v10 => ?_)
      refine JL_q (wants_none rfl) rfl (ex_assign rfl) ?_
      refine JL_nil ?_
      refine N_block ?_
      refine N_then ?_
      refine J_region ?_
      refine JL_q (wants_none rfl) rfl (ex_add rfl rfl) ?_
      refine JL_q (wants_none rfl) rfl (ex_move rfl) ?_
      refine JL_nil ?_
      exact N_next' v10 ⟨rfl, rfl, rfl, rfl, rfl, trivial⟩ [1, 2] rfl rfl
    · refine J_exit ?_
      refine N_then_exit ?_
      exact N_break' g3 ⟨rfl, rfl, rfl, rfl, rfl, trivial⟩ [0, 1] rfl rfl
  · refine N_then ?_
    refine J_seq ?_
    refine J_region ?_
    refine JL_q (wants_none rfl) rfl (ex_move rfl) ?_
    refine JL_q (wants_none rfl) rfl (ex_assign rfl) ?_
    refine JL_nil ?_
    refine N_then ?_
    refine J_ret ?_
    exact N_ret1 rfl (rv_tmp rfl) (fun w hh => ⟨g3, rfl, hh.sel [1] rfl⟩)

set_option maxHeartbeats 4000000 in
theorem c_impl_cellsOfRow (A : Nat → Prop) (w : World) (hA : ∀ k, A k → k < w.heap.size) (v0_ : Value) (p0 : GConfig) (hp0 : Rd A w v0_ p0) (p1 : Int) (p2 : Int) (r : (List Int) × Int) (hr : F_impl_cellsOfRow p0 p1 p2 = some r) :
    Con Try.prog 106 [v0_, .int .i64 p1, .int .i64 p2] A w (fun x_ : Value => .tuple #[x_, .int .i64 r.2]) (fun x_ => [.ow 2 x_ r.1]) := by
  obtain ⟨v0_0, v0_1, rfl, hp0_0, hp0_1⟩ := GConfig.open hp0
  refine Con_of (v := fun (r : (List Int) × Int) (x_ : Value) => .tuple #[x_, .int .i64 r.2]) (fs := fun r x_ => [.ow 2 x_ r.1]) Try.func106 rfl Try.ntmps106 rfl (((SH.start hA).start_rd rfl hp0_0).start_rd rfl hp0_1) rfl ?_ hr
  unfold F_impl_cellsOfRow
  refine J_seq ?_
  refine J_region ?_
  refine JL_st (wants_none rfl) rfl (st_box' rfl (fun w hh => (cv_aggs ⟨cv_int, (hh.cv 1 rfl), (hh.cv 0 rfl), trivial⟩))) (fun b1 => ?_)
  refine JL_q (wants_none rfl) rfl (ex_assign rfl) ?_
  refine JL_q (wants_none rfl) rfl (ex_assign rfl) ?_
  refine JL_nil ?_
  refine N_then ?_
  refine J_seq ?_
  refine J_cut' (S' := Unit) (G' := Unit) (fun _ _ => [(1, .int .i64 p1), (2, .int .i64 p2), (3, .pointer (some ⟨b1, 0, none⟩))]) (fun _ _ => [.rd v0_0 p0.Left, .rd v0_1 p0.Right, .bx b1 34 [.int .i64 p0.State, v0_0, v0_1]]) ?_ (fun s2 g3 => ?_)
  · refine J_seq ?_
    refine J_region ?_
    refine JL_q (wants_none rfl) rfl (ex_fieldAddr fi_34_1 rfl rfl) ?_
    refine JL_q (wants_none rfl) rfl (ex_load_bx 0 ti_31 rfl rfl rfl) ?_
    refine JL_bnd fun r4 hr5 => ?_
    refine JL_call (wants_none rfl) rfl Try.call82 rfl (Ca_of0 fun w hh => c_impl_size_int64 _ w (fun _ hk => hk.elim) _ _ (hh.rd0 2 rfl) _ hr5) (fun _ => ?_)
    refine JL_q (wants_none rfl) rfl (ex_move rfl) ?_
    refine JL_q (wants_none rfl) rfl (ex_gtr rfl rfl) ?_
    refine JL_q (wants_none rfl) rfl (ex_move rfl) ?_
    refine JL_cond (fun h6 => ?_) (fun h6 => ?_)
    · refine JL_passed rfl rfl rfl h6 ?_
      refine JL_passed rfl rfl rfl h6 ?_
      refine JL_passed rfl rfl rfl h6 ?_
      refine JL_passed rfl rfl rfl h6 ?_
      refine JL_passed rfl rfl rfl h6 ?_
      refine JL_passed rfl rfl rfl h6 ?_
      refine JL_passed rfl rfl rfl h6 ?_
      refine JL_q (wants_none rfl) rfl (ex_pick_true rfl h6 rfl) ?_
      refine JL_nil ?_
      refine N_then ?_
      refine J_if_true rfl rfl ?_
      refine J_seq ?_
      refine J_region ?_
      refine JL_q (wants_none rfl) rfl (ex_assign rfl) ?_
      refine JL_q (wants_none rfl) rfl (ex_assign rfl) ?_
      refine JL_nil ?_
      refine N_then ?_
      refine J_ret ?_
      refine N_mid_ret ?_
      refine N_then_ret ?_
      refine N_ctx (fun w hh => SH.ow_nil (α := Int) 2 hh) ?_
      exact N_ret2 rfl (rv_tmp rfl) (rv_tmp rfl) (fun w hh => ⟨(.slice none 0 0 : Value), rfl, hh.sel [0] rfl⟩)
    · refine JL_q (wants_some rfl rfl rfl h6) rfl (ex_fieldAddr fi_34_2 rfl rfl) ?_
      refine JL_q (wants_some rfl rfl rfl h6) rfl (ex_load_bx 0 ti_31 rfl rfl rfl) ?_
      refine JL_bnd fun r7 hr8 => ?_
      refine JL_call (wants_some rfl rfl rfl h6) rfl Try.call82 rfl (Ca_of0 fun w hh => c_impl_size_int64 _ w (fun _ hk => hk.elim) _ _ (hh.rd0 1 rfl) _ hr8) (fun _ => ?_)
      refine JL_q (wants_some rfl rfl rfl h6) rfl (ex_move rfl) ?_
      refine JL_q (wants_some rfl rfl rfl h6) rfl (ex_move rfl) ?_
      refine JL_q (wants_some rfl rfl rfl h6) rfl (ex_sub rfl rfl) ?_
      refine JL_q (wants_some rfl rfl rfl h6) rfl (ex_gtr rfl rfl) ?_
      refine JL_q (wants_none rfl) rfl (ex_pick_false rfl h6 rfl) ?_
      refine JL_nil ?_
      refine N_then ?_
      refine J_if rfl (fun h9 => ?_) (fun h9 => ?_)
      · refine J_seq ?_
        refine J_region ?_
        refine JL_q (wants_none rfl) rfl (ex_assign rfl) ?_
        refine JL_q (wants_none rfl) rfl (ex_assign rfl) ?_
        refine JL_nil ?_
        refine N_then ?_
        refine J_ret ?_
        refine N_mid_ret ?_
        refine N_then_ret ?_
        refine N_ctx (fun w hh => SH.ow_nil (α := Int) 2 hh) ?_
        exact N_ret2 rfl (rv_tmp rfl) (rv_tmp rfl) (fun w hh => ⟨(.slice none 0 0 : Value), rfl, hh.sel [0] rfl⟩)
      · refine J_skip ?_
        exact N_meet' () ⟨rfl, rfl, rfl, trivial⟩ [2, 1, 0] rfl rfl
  · refine N_then ?_
    refine J_seq ?_
    refine J_draw [] (by kernel_rfl) ?_
    refine JP_take (i := 0) [0, 1, 2] [] rfl (by kernel_rfl) (by kernel_rfl) (by kernel_rfl) rfl rfl (wants_none rfl) rfl (ex_fieldAddr fi_34_1 rfl rfl) ?_
    refine JP_take (i := 1) [0, 1, 2] [] rfl (by kernel_rfl) (by kernel_rfl) (by kernel_rfl) rfl rfl (wants_none rfl) rfl (ex_load_bx 2 ti_31 rfl rfl rfl) ?_
    refine JP_take (i := 2) [0, 1, 2] [] rfl (by kernel_rfl) (by kernel_rfl) (by kernel_rfl) rfl rfl (wants_none rfl) rfl (ex_move rfl) ?_
    refine JP_take (i := 5) [0, 1, 2] [] rfl (by kernel_rfl) (by kernel_rfl) (by kernel_rfl) rfl rfl (wants_none rfl) rfl (ex_fieldAddr fi_34_2 rfl rfl) ?_
    refine JP_take (i := 6) [0, 1, 2] [] rfl (by kernel_rfl) (by kernel_rfl) (by kernel_rfl) rfl rfl (wants_none rfl) rfl (ex_load_bx 2 ti_31 rfl rfl rfl) ?_
    refine JP_take (i := 7) [0, 1, 2] [] rfl (by kernel_rfl) (by kernel_rfl) (by kernel_rfl) rfl rfl (wants_none rfl) rfl (ex_move rfl) ?_
    refine JP_take (i := 8) [0, 1, 2] [] rfl (by kernel_rfl) (by kernel_rfl) (by kernel_rfl) rfl rfl (wants_none rfl) rfl (ex_move rfl) ?_
    refine JP_take (i := 9) [0, 1, 2] [] rfl (by kernel_rfl) (by kernel_rfl) (by kernel_rfl) rfl rfl (wants_none rfl) rfl (ex_sub rfl rfl) ?_
    refine JP_go [0, 1, 2] [] rfl rfl rfl (fun w11 h1_12 hp10 => ?_)
    refine JD_bnd fun r13 hr14 => ?_
    refine JD_one (i := 3) (by kernel_rfl) ?_
    refine JO_call rfl (wants_none rfl) rfl Try.call181 rfl (Ca_self (fun _ => rfl) fun w hh => c_impl_cellsFrom _ w (fun _ hk => hk.elim) _ _ (hh.rd0 0 rfl) _ _ _ hr14) (fun x15 => ?_)
    refine JD_bnd fun r16 hr17 => ?_
    refine JD_one (i := 4) (by kernel_rfl) ?_
    refine JO_call rfl (wants_none rfl) rfl Try.call155 rfl (Ca_self (fun _ => rfl) fun w hh => c_impl_reversed _ w (fun _ hk => hk.elim) _ _ (hh.ow0 0 rfl) _ hr17) (fun x18 => ?_)
    refine JD_bnd fun r19 hr20 => ?_
    refine JD_one (i := 10) (by kernel_rfl) ?_
    refine JO_call rfl (wants_none rfl) rfl Try.call181 rfl (Ca_self (fun _ => rfl) fun w hh => c_impl_cellsFrom _ w (fun _ hk => hk.elim) _ _ (hh.rd0 3 rfl) _ _ _ hr20) (fun x21 => ?_)
    refine JD_one (i := 11) (by kernel_rfl) ?_
    refine JO_ctx (fun w hh => hh.tokf 1 rfl rfl) (tokf_owns (i := 1) rfl) ?_
    refine JO_ctx (fun w hh => hh.tokf 1 rfl rfl) (tokf_owns (i := 1) rfl) ?_
    refine JO_st rfl (wants_none rfl) rfl (st_buildSlice_od (vs := [x18, x21]) (B := (((x18 : Value).ownBlock.toList ++ []) ++ (((x21 : Value).ownBlock.toList ++ []) ++ []))) ([r16, r19] : List (List Int)) [1, 0] Try.underlying22 ti_31 zi_31 rfl rfl rfl rfl rfl (fun w hh => (dwv_cons (hh.dw 1 rfl) (dwv_cons (hh.dw 0 rfl) dwv_nil)))) (fun _ hk => nomatch hk) (fun b22 => ?_)
    refine JD_bnd fun r23 hr24 => ?_
    refine JD_one (i := 12) (by kernel_rfl) ?_
    refine JO_call rfl (wants_none rfl) rfl Try.call118 rfl (Ca_self (fun _ => rfl) fun w hh => c_impl_joined _ w (fun _ hk => hk.elim) _ _ (hh.od0 0 rfl) _ hr24) (fun x25 => ?_)
    refine JD_take (i := 13) hp10 rfl (by kernel_rfl) (by kernel_rfl) (by kernel_rfl) (wants_none rfl) rfl (ex_assign rfl) ?_
    refine JD_take (i := 14) hp10 rfl (by kernel_rfl) (by kernel_rfl) (by kernel_rfl) (wants_none rfl) rfl (ex_assign rfl) ?_
    refine JD_done (by kernel_rfl) ?_
    refine N_then ?_
    refine J_ret ?_
    exact N_ret2 rfl (rv_tmp rfl) (rv_tmp rfl) (fun w hh => ⟨x25, rfl, hh.sel [0] rfl⟩)

set_option maxHeartbeats 4000000 in
theorem c_impl_RowOfConfig (A : Nat → Prop) (w : World) (hA : ∀ k, A k → k < w.heap.size) (v0_ : Value) (p0 : GMachine) (hp0 : Rd A w v0_ p0) (v1_ : Value) (p1 : GConfig) (hp1 : Rd A w v1_ p1) (p2 : Int) (p3 : Int) (r : (List Int) × Int) (hr : F_impl_RowOfConfig p0 p1 p2 p3 = some r) :
    Con Try.prog 52 [v0_, v1_, .int .i64 p2, .int .i64 p3] A w (fun x_ : Value => .tuple #[x_, .int .i64 r.2]) (fun x_ => [.ow 2 x_ r.1]) := by
  obtain ⟨v0_0, rfl, hp0_0⟩ := GMachine.open hp0
  obtain ⟨v1_0, v1_1, rfl, hp1_0, hp1_1⟩ := GConfig.open hp1
  refine Con_of (v := fun (r : (List Int) × Int) (x_ : Value) => .tuple #[x_, .int .i64 r.2]) (fs := fun r x_ => [.ow 2 x_ r.1]) Try.func52 rfl Try.ntmps52 rfl ((((SH.start hA).start_rd rfl hp0_0).start_rd rfl hp1_0).start_rd rfl hp1_1) rfl ?_ hr
  unfold F_impl_RowOfConfig
  refine J_seq ?_
  refine J_region ?_
  refine JL_st (wants_none rfl) rfl (st_box' rfl (fun w hh => (cv_aggs ⟨cv_int, cv_int, (hh.cv 2 rfl), trivial⟩))) (fun b1 => ?_)
  refine JL_st (wants_none rfl) rfl (st_box' rfl (fun w hh => (cv_aggs ⟨cv_int, (hh.cv 2 rfl), (hh.cv 1 rfl), trivial⟩))) (fun b2 => ?_)
  refine JL_q (wants_none rfl) rfl (ex_assign rfl) ?_
  refine JL_q (wants_none rfl) rfl (ex_assign rfl) ?_
  refine JL_nil ?_
  refine N_then ?_
  refine J_seq ?_
  refine J_seq ?_
  refine J_region ?_
  refine JL_q (wants_none rfl) rfl (ex_load_bx_agg 1 ti_39 rfl rfl rfl rfl) ?_
  refine JL_q (wants_none rfl) rfl (ex_load_bx_agg 0 ti_34 rfl rfl rfl rfl) ?_
  refine JL_bnd fun r3 hr4 => ?_
  refine JL_call (wants_none rfl) rfl Try.call99 rfl (Ca_of0 fun w hh => c_impl_ValidConfig _ w (fun _ hk => hk.elim) _ _ (GMachine.rdmk (Rd.mk_int _ _ _) (Rd.mk_int _ _ _) (hh.rd0 4 rfl)) _ _ (GConfig.rdmk (Rd.mk_int _ _ _) (hh.rd0 3 rfl) (hh.rd0 2 rfl)) _ hr4) (fun _ => ?_)
  refine JL_q (wants_none rfl) rfl (ex_not rfl) ?_
  refine JL_nil ?_
  refine N_then ?_
  refine J_if rfl (fun h5 => ?_) (fun h5 => ?_)
  · refine J_seq ?_
    refine J_region ?_
    refine JL_q (wants_none rfl) rfl (ex_assign rfl) ?_
    refine JL_q (wants_none rfl) rfl (ex_assign rfl) ?_
    refine JL_nil ?_
    refine N_then ?_
    refine J_ret ?_
    refine N_then_ret ?_
    refine N_ctx (fun w hh => SH.ow_nil (α := Int) 2 hh) ?_
    exact N_ret2 rfl (rv_tmp rfl) (rv_tmp rfl) (fun w hh => ⟨(.slice none 0 0 : Value), rfl, hh.sel [0] rfl⟩)
  · refine J_skip ?_
    refine N_then ?_
    refine J_seq ?_
    refine J_seq ?_
    refine J_region ?_
    refine JL_q (wants_none rfl) rfl (ex_move rfl) ?_
    refine JL_q (wants_none rfl) rfl (ex_move rfl) ?_
    refine JL_bnd fun r6 hr7 => ?_
    refine JL_call (wants_none rfl) rfl Try.call105 rfl (Ca_of0 fun w hh => c_impl_rowCode _ w (fun _ hk => hk.elim) _ _ _ hr7) (fun _ => ?_)
    refine JL_q (wants_none rfl) rfl (ex_assign rfl) ?_
    refine JL_nil ?_
    refine N_then ?_
    refine J_seq ?_
    refine J_region ?_
    refine JL_q (wants_none rfl) rfl (ex_move rfl) ?_
    refine JL_q (wants_none rfl) rfl (ex_neq rfl rfl) ?_
    refine JL_nil ?_
    refine N_then ?_
    refine J_if rfl (fun h8 => ?_) (fun h8 => ?_)
    · refine J_seq ?_
      refine J_region ?_
      refine JL_q (wants_none rfl) rfl (ex_move rfl) ?_
      refine JL_q (wants_none rfl) rfl (ex_assign rfl) ?_
      refine JL_q (wants_none rfl) rfl (ex_assign rfl) ?_
      refine JL_nil ?_
      refine N_then ?_
      refine J_ret ?_
      refine N_then_ret ?_
      refine N_ctx (fun w hh => SH.ow_nil (α := Int) 2 hh) ?_
      exact N_ret2 rfl (rv_tmp rfl) (rv_tmp rfl) (fun w hh => ⟨(.slice none 0 0 : Value), rfl, hh.sel [0] rfl⟩)
    · refine J_skip ?_
      refine N_then ?_
      refine J_seq ?_
      refine J_region ?_
      refine JL_q (wants_none rfl) rfl (ex_load_bx_agg 0 ti_34 rfl rfl rfl rfl) ?_
      refine JL_q (wants_none rfl) rfl (ex_move rfl) ?_
      refine JL_q (wants_none rfl) rfl (ex_move rfl) ?_
      refine JL_bnd fun r9 hr10 => ?_
      refine JL_call (wants_none rfl) rfl Try.call106 rfl (Ca_self (fun _ => rfl) fun w hh => c_impl_cellsOfRow _ w (fun _ hk => hk.elim) _ _ (GConfig.rdmk (Rd.mk_int _ _ _) (hh.rd0 3 rfl) (hh.rd0 2 rfl)) _ _ _ hr10) (fun x11 => ?_)
      refine JL_q (wants_none rfl) rfl (ex_move rfl) ?_
      refine JL_q (wants_none rfl) rfl (ex_extract rfl rfl) ?_
      refine JL_q (wants_none rfl) rfl (ex_extract rfl rfl) ?_
      refine JL_q (wants_none rfl) rfl (ex_assign rfl) ?_
      refine JL_q (wants_none rfl) rfl (ex_assign rfl) ?_
      refine JL_nil ?_
      refine N_then ?_
      refine J_seq ?_
      refine J_seq ?_
      refine J_region ?_
      refine JL_q (wants_none rfl) rfl (ex_move rfl) ?_
      refine JL_q (wants_none rfl) rfl (ex_neq rfl rfl) ?_
      refine JL_nil ?_
      refine N_then ?_
      refine J_if rfl (fun h12 => ?_) (fun h12 => ?_)
      · refine J_seq ?_
        refine J_region ?_
        refine JL_q (wants_none rfl) rfl (ex_move rfl) ?_
        refine JL_q (wants_none rfl) rfl (ex_assign rfl) ?_
        refine JL_q (wants_none rfl) rfl (ex_assign rfl) ?_
        refine JL_nil ?_
        refine N_then ?_
        refine J_ret ?_
        refine N_then_ret ?_
        refine N_ctx (fun w hh => SH.ow_nil (α := Int) 2 hh) ?_
        exact N_ret2 rfl (rv_tmp rfl) (rv_tmp rfl) (fun w hh => ⟨(.slice none 0 0 : Value), rfl, hh.sel [0] rfl⟩)
      · refine J_skip ?_
        refine N_then ?_
        refine J_seq ?_
        refine J_draw [0] (by kernel_rfl) ?_
        refine JP_take (i := 0) [1, 2, 3, 4, 5] [0] rfl (by kernel_rfl) (by kernel_rfl) (by kernel_rfl) rfl rfl (wants_none rfl) rfl (ex_move rfl) ?_
        refine JP_take (i := 1) [1, 2, 3, 4, 5] [0] rfl (by kernel_rfl) (by kernel_rfl) (by kernel_rfl) rfl rfl (wants_none rfl) rfl (ex_move rfl) ?_
        refine JP_take (i := 2) [1, 2, 3, 4, 5] [0] rfl (by kernel_rfl) (by kernel_rfl) (by kernel_rfl) rfl rfl (wants_none rfl) rfl (ex_load_bx_agg 1 ti_39 rfl rfl rfl rfl) ?_
        refine JP_take (i := 3) [1, 2, 3, 4, 5] [0] rfl (by kernel_rfl) (by kernel_rfl) (by kernel_rfl) rfl rfl (wants_none rfl) rfl (ex_fieldAddr fi_34_0 rfl rfl) ?_
        refine JP_take (i := 4) [1, 2, 3, 4, 5] [0] rfl (by kernel_rfl) (by kernel_rfl) (by kernel_rfl) rfl rfl (wants_none rfl) rfl (ex_load_bx 0 ti_2 rfl rfl rfl) ?_
        refine JP_take (i := 5) [1, 2, 3, 4, 5] [0] rfl (by kernel_rfl) (by kernel_rfl) (by kernel_rfl) rfl rfl (wants_none rfl) rfl (ex_move rfl) ?_
        refine JP_take (i := 6) [1, 2, 3, 4, 5] [0] rfl (by kernel_rfl) (by kernel_rfl) (by kernel_rfl) rfl rfl (wants_none rfl) rfl (ex_move rfl) ?_
        refine JP_bnd fun y13 hy14 => ?_
        refine JP_ow_open (v := x11) 0 rfl hy14 ?_; rintro b15 cap16 rfl
        refine JP_take (i := 7) [1, 2, 3, 4, 5] [0] rfl (by kernel_rfl) (by kernel_rfl) (by kernel_rfl) rfl rfl (wants_none rfl) rfl (ex_index_own Try.underlying31 ti_2 rfl rfl hy14 (by first | rfl | simp)) ?_
        refine JP_go [1, 2, 3, 4, 5] [0] rfl rfl rfl (fun w18 h1_19 hp17 => ?_)
        refine JD_one (i := 8) (by kernel_rfl) ?_
        refine JO_q rfl (wants_none rfl) rfl (ex_load_ow_int 0 ti_2 rfl rfl hy14) ?_
        refine JD_bnd fun r21 hr22 => ?_
        refine JD_one (i := 9) (by kernel_rfl) ?_
        refine JO_call rfl (wants_none rfl) rfl Try.call107 rfl (Ca_of0 fun w hh => c_impl_headColor _ w (fun _ hk => hk.elim) _ _ (GMachine.rdmk (Rd.mk_int _ _ _) (Rd.mk_int _ _ _) (hh.rd0 5 rfl)) _ _ _ hr22) (fun _ => ?_)
        refine JD_bnd fun y23 hy24 => ?_
        refine JD_take (i := 10) hp17 rfl (by kernel_rfl) (by kernel_rfl) (by kernel_rfl) (wants_none rfl) rfl (ex_index_own Try.underlying31 ti_2 rfl rfl hy24 (by first | rfl | simp)) ?_
        refine JD_one (i := 11) (by kernel_rfl) ?_
        refine JO_sk rfl (wants_none rfl) (sk_store_ow 0 ti_2 rfl rfl rfl hy24 (fun w hh => (Rd.mk_int _ _ _))) (sub_owl 0 rfl) ?_
        refine JD_done (by kernel_rfl) ?_
        refine N_then ?_
        refine J_seq ?_
        refine J_region ?_
        refine JL_q (wants_none rfl) rfl (ex_move rfl) ?_
        refine JL_q (wants_none rfl) rfl (ex_assign rfl) ?_
        refine JL_q (wants_none rfl) rfl (ex_assign rfl) ?_
        refine JL_nil ?_
        refine N_then ?_
        refine J_ret ?_
        exact N_ret2 rfl (rv_tmp rfl) (rv_tmp rfl) (fun w hh => ⟨(.slice (some ⟨b15, 0, none⟩) r9.1.length cap16), rfl, hh.sel [0] rfl⟩)

set_option maxHeartbeats 4000000 in
theorem c_laws_FnExactRowOfConfig (A : Nat → Prop) (w : World) (hA : ∀ k, A k → k < w.heap.size) (v0_ : Value) (p0 : GMachine) (hp0 : Rd A w v0_ p0) (v1_ : Value) (p1 : GConfig) (hp1 : Rd A w v1_ p1) (p2 : Int) (p3 : Int) (r : Bool) (hr : F_laws_FnExactRowOfConfig p0 p1 p2 p3 = some r) :
    Con Try.prog 8 [v0_, v1_, .int .i64 p2, .int .i64 p3] A w (fun x_ : Unit => .bool r) (fun x_ => []) := by
  obtain ⟨v0_0, rfl, hp0_0⟩ := GMachine.open hp0
  obtain ⟨v1_0, v1_1, rfl, hp1_0, hp1_1⟩ := GConfig.open hp1
  refine Con_of (v := fun (r : Bool) (x_ : Unit) => .bool r) (fs := fun r x_ => []) Try.func8 rfl Try.ntmps8 rfl ((((SH.start hA).start_rd rfl hp0_0).start_rd rfl hp1_0).start_rd rfl hp1_1) rfl ?_ hr
  unfold F_laws_FnExactRowOfConfig
  refine J_seq ?_
  refine J_region ?_
  refine JL_st (wants_none rfl) rfl (st_box' rfl (fun w hh => (cv_aggs ⟨cv_int, cv_int, (hh.cv 2 rfl), trivial⟩))) (fun b1 => ?_)
  refine JL_st (wants_none rfl) rfl (st_box' rfl (fun w hh => (cv_aggs ⟨cv_int, (hh.cv 2 rfl), (hh.cv 1 rfl), trivial⟩))) (fun b2 => ?_)
  refine JL_q (wants_none rfl) rfl (ex_assign rfl) ?_
  refine JL_nil ?_
  refine N_then ?_
  refine J_seq ?_
  refine J_region ?_
  refine JL_q (wants_none rfl) rfl (ex_assign rfl) ?_
  refine JL_nil ?_
  refine N_then ?_
  refine J_seq ?_
  refine J_region ?_
  refine JL_q (wants_none rfl) rfl (ex_load_bx_agg 1 ti_30 rfl rfl rfl rfl) ?_
  refine JL_q (wants_none rfl) rfl (ex_move rfl) ?_
  refine JL_bnd fun r3 hr4 => ?_
  refine JL_call (wants_none rfl) rfl Try.call22 rfl (Ca_of0 fun w hh => c_laws_szMachine _ w (fun _ hk => hk.elim) _ _ (GMachine.rdmk (Rd.mk_int _ _ _) (Rd.mk_int _ _ _) (hh.rd0 4 rfl)) _ _ hr4) (fun _ => ?_)
  refine JL_q (wants_none rfl) rfl (ex_assign rfl) ?_
  refine JL_nil ?_
  refine N_then ?_
  refine J_seq ?_
  refine J_seq ?_
  refine J_region ?_
  refine JL_q (wants_none rfl) rfl (ex_move rfl) ?_
  refine JL_q (wants_none rfl) rfl (ex_lss rfl rfl) ?_
  refine JL_nil ?_
  refine N_then ?_
  refine J_if rfl (fun h5 => ?_) (fun h5 => ?_)
  · refine J_seq ?_
    refine J_region ?_
    refine JL_q (wants_none rfl) rfl (ex_assign rfl) ?_
    refine JL_nil ?_
    refine N_then ?_
    refine J_ret ?_
    refine N_then_ret ?_
    exact N_ret1 rfl (rv_tmp rfl) (fun w hh => ⟨(), rfl, hh.sel [] rfl⟩)
  · refine J_skip ?_
    refine N_then ?_
    refine J_seq ?_
    refine J_region ?_
    refine JL_q (wants_none rfl) rfl (ex_load_bx_agg 0 ti_61 rfl rfl rfl rfl) ?_
    refine JL_q (wants_none rfl) rfl (ex_move rfl) ?_
    refine JL_bnd fun r6 hr7 => ?_
    refine JL_call (wants_none rfl) rfl Try.call43 rfl (Ca_of0 fun w hh => c_laws_szConfig _ w (fun _ hk => hk.elim) _ _ (GConfig.rdmk (Rd.mk_int _ _ _) (hh.rd0 3 rfl) (hh.rd0 2 rfl)) _ _ hr7) (fun _ => ?_)
    refine JL_q (wants_none rfl) rfl (ex_assign rfl) ?_
    refine JL_nil ?_
    refine N_then ?_
    refine J_seq ?_
    refine J_seq ?_
    refine J_region ?_
    refine JL_q (wants_none rfl) rfl (ex_move rfl) ?_
    refine JL_q (wants_none rfl) rfl (ex_lss rfl rfl) ?_
    refine JL_nil ?_
    refine N_then ?_
    refine J_if rfl (fun h8 => ?_) (fun h8 => ?_)
    · refine J_seq ?_
      refine J_region ?_
      refine JL_q (wants_none rfl) rfl (ex_assign rfl) ?_
      refine JL_nil ?_
      refine N_then ?_
      refine J_ret ?_
      refine N_then_ret ?_
      exact N_ret1 rfl (rv_tmp rfl) (fun w hh => ⟨(), rfl, hh.sel [] rfl⟩)
    · refine J_skip ?_
      refine N_then ?_
      refine J_seq ?_
      refine J_draw [] (by kernel_rfl) ?_
      refine JP_take (i := 0) [0, 1, 2, 3, 4] [] rfl (by kernel_rfl) (by kernel_rfl) (by kernel_rfl) rfl rfl (wants_none rfl) rfl (ex_load_bx_agg 1 ti_30 rfl rfl rfl rfl) ?_
      refine JP_take (i := 2) [0, 1, 2, 3, 4] [] rfl (by kernel_rfl) (by kernel_rfl) (by kernel_rfl) rfl rfl (wants_none rfl) rfl (ex_load_bx_agg 0 ti_61 rfl rfl rfl rfl) ?_
      refine JP_take (i := 4) [0, 1, 2, 3, 4] [] rfl (by kernel_rfl) (by kernel_rfl) (by kernel_rfl) rfl rfl (wants_none rfl) rfl (ex_move rfl) ?_
      refine JP_take (i := 5) [0, 1, 2, 3, 4] [] rfl (by kernel_rfl) (by kernel_rfl) (by kernel_rfl) rfl rfl (wants_none rfl) rfl (ex_move rfl) ?_
      refine JP_go [0, 1, 2, 3, 4] [] rfl rfl rfl (fun w10 h1_11 hp9 => ?_)
      refine JD_bnd fun r12 hr13 => ?_
      refine JD_one (i := 1) (by kernel_rfl) ?_
      refine JO_call rfl (wants_none rfl) rfl Try.call24 rfl (Ca_self (fun _ => rfl) fun w hh => c_laws_toMachine _ w (fun _ hk => hk.elim) _ _ (GMachine.rdmk (Rd.mk_int _ _ _) (Rd.mk_int _ _ _) (hh.rd0 4 rfl)) _ hr13) (fun x14 => ?_)
      refine JD_bnd fun r15 hr16 => ?_
      refine JD_one (i := 3) (by kernel_rfl) ?_
      refine JO_call rfl (wants_none rfl) rfl Try.call45 rfl (Ca_self (fun _ => rfl) fun w hh => c_laws_toConfig _ w (fun _ hk => hk.elim) _ _ (GConfig.rdmk (Rd.mk_int _ _ _) (hh.rd0 4 rfl) (hh.rd0 3 rfl)) _ hr16) (fun x17 => ?_)
      obtain ⟨x17_0, x17_1⟩ := x17
      refine JD_bnd fun r18 hr19 => ?_
      refine JD_one (i := 6) (by kernel_rfl) ?_
      refine JO_call rfl (wants_none rfl) rfl Try.call51 rfl (Ca_self (fun _ => rfl) fun w hh => c_spec_RowOfConfig _ w (fun _ hk => hk.elim) _ _ (GMachine.rdmk (Rd.mk_int _ _ _) (Rd.mk_int _ _ _) (hh.ow0 2 rfl)) _ _ (GConfig.rdmk (Rd.mk_int _ _ _) (hh.ow0 0 rfl) (hh.ow0 1 rfl)) _ _ _ hr19) (fun x20 => ?_)
      refine JD_take (i := 7) hp9 rfl (by kernel_rfl) (by kernel_rfl) (by kernel_rfl) (wants_none rfl) rfl (ex_move rfl) ?_
      refine JD_take (i := 8) hp9 rfl (by kernel_rfl) (by kernel_rfl) (by kernel_rfl) (wants_none rfl) rfl (ex_extract rfl rfl) ?_
      refine JD_take (i := 9) hp9 rfl (by kernel_rfl) (by kernel_rfl) (by kernel_rfl) (wants_none rfl) rfl (ex_extract rfl rfl) ?_
      refine JD_take (i := 10) hp9 rfl (by kernel_rfl) (by kernel_rfl) (by kernel_rfl) (wants_none rfl) rfl (ex_assign rfl) ?_
      refine JD_take (i := 11) hp9 rfl (by kernel_rfl) (by kernel_rfl) (by kernel_rfl) (wants_none rfl) rfl (ex_assign rfl) ?_
      refine JD_done (by kernel_rfl) ?_
      refine N_then ?_
      refine J_seq ?_
      refine J_region ?_
      refine JL_q (wants_none rfl) rfl (ex_load_bx_agg 5 ti_30 rfl rfl rfl rfl) ?_
      refine JL_bnd fun r21 hr22 => ?_
      refine JL_call (wants_none rfl) rfl Try.call24 rfl (Ca_self (fun _ => rfl) fun w hh => c_laws_toMachine _ w (fun _ hk => hk.elim) _ _ (GMachine.rdmk (Rd.mk_int _ _ _) (Rd.mk_int _ _ _) (hh.rd0 8 rfl)) _ hr22) (fun x23 => ?_)
      refine JL_st (wants_none rfl) rfl (st_alloc zi_39 rfl) (fun b24 => ?_)
      refine JL_sk (wants_none rfl) (sk_store_bx' 0 ti_39 rfl rfl (fun w hh => (cv_aggs ⟨cv_int, cv_int, (hh.cv_ow 1 rfl), trivial⟩)) rfl rfl rfl rfl) ?_
      refine JL_nil ?_
      refine N_then ?_
      refine J_seq ?_
      refine J_region ?_
      refine JL_q (wants_none rfl) rfl (ex_load_bx_agg 6 ti_61 rfl rfl rfl rfl) ?_
      refine JL_bnd fun r25 hr26 => ?_
      refine JL_call (wants_none rfl) rfl Try.call45 rfl (Ca_self (fun _ => rfl) fun w hh => c_laws_toConfig _ w (fun _ hk => hk.elim) _ _ (GConfig.rdmk (Rd.mk_int _ _ _) (hh.rd0 9 rfl) (hh.rd0 8 rfl)) _ hr26) (fun x27 => ?_)
      obtain ⟨x27_0, x27_1⟩ := x27
      refine JL_st (wants_none rfl) rfl (st_alloc zi_34 rfl) (fun b28 => ?_)
      refine JL_sk (wants_none rfl) (sk_store_bx' 0 ti_34 rfl rfl (fun w hh => (cv_aggs ⟨cv_int, (hh.cv_ow 1 rfl), (hh.cv_ow 2 rfl), trivial⟩)) rfl rfl rfl rfl) ?_
      refine JL_nil ?_
      refine N_then ?_
      refine J_seq ?_
      refine J_region ?_
      refine JL_q (wants_none rfl) rfl (ex_load_bx_agg 3 ti_39 rfl rfl rfl rfl) ?_
      refine JL_q (wants_none rfl) rfl (ex_load_bx_agg 0 ti_34 rfl rfl rfl rfl) ?_
      refine JL_q (wants_none rfl) rfl (ex_move rfl) ?_
      refine JL_q (wants_none rfl) rfl (ex_move rfl) ?_
      refine JL_bnd fun r29 hr30 => ?_
      refine JL_call (wants_none rfl) rfl Try.call52 rfl (Ca_self (fun _ => rfl) fun w hh => c_impl_RowOfConfig _ w (fun _ hk => hk.elim) _ _ (GMachine.rdmk (Rd.mk_int _ _ _) (Rd.mk_int _ _ _) (hh.ow0 4 rfl)) _ _ (GConfig.rdmk (Rd.mk_int _ _ _) (hh.ow0 1 rfl) (hh.ow0 2 rfl)) _ _ _ hr30) (fun x31 => ?_)
      refine JL_q (wants_none rfl) rfl (ex_move rfl) ?_
      refine JL_q (wants_none rfl) rfl (ex_extract rfl rfl) ?_
      refine JL_q (wants_none rfl) rfl (ex_extract rfl rfl) ?_
      refine JL_q (wants_none rfl) rfl (ex_assign rfl) ?_
      refine JL_q (wants_none rfl) rfl (ex_assign rfl) ?_
      refine JL_nil ?_
      refine N_then ?_
      refine J_seq ?_
      refine J_cut' (S' := Unit) (G' := Unit) (fun _ _ => [(2, .int .i64 p2), (3, .int .i64 p3), (4, .pointer (some ⟨b1, 0, none⟩)), (5, .pointer (some ⟨b2, 0, none⟩)), (10, x20), (11, .int .i64 r18.2), (12, .pointer (some ⟨b24, 0, none⟩)), (13, .pointer (some ⟨b28, 0, none⟩)), (14, x31), (15, .int .i64 r29.2)]) (fun _ _ => [.rd v0_0 p0.Rules, .bx b1 30 [.int .i64 p0.Symbols, .int .i64 p0.States, v0_0], .rd v1_0 p1.Left, .rd v1_1 p1.Right, .bx b2 61 [.int .i64 p1.State, v1_0, v1_1], .ow 2 x20 r18.1, .ow 161 x23 r21.Rules, .bx b24 39 [.int .i64 r21.Symbols, .int .i64 r21.States, x23], .ow 2 x27_0 r25.Left, .ow 2 x27_1 r25.Right, .bx b28 34 [.int .i64 r25.State, x27_0, x27_1], .ow 2 x31 r29.1]) ?_ (fun s32 g33 => ?_)
      · refine J_seq ?_
        refine J_region ?_
        refine JL_q (wants_none rfl) rfl (ex_move rfl) ?_
        refine JL_q (wants_none rfl) rfl (ex_move rfl) ?_
        refine JL_bnd fun r34 hr35 => ?_
        refine JL_call (wants_none rfl) rfl Try.call29 rfl (Ca_of0 fun w hh => c_laws_eqInt64S _ w (fun _ hk => hk.elim) _ _ (hh.ow0 0 rfl) _ _ (hh.ow0 6 rfl) _ hr35) (fun _ => ?_)
        refine JL_q (wants_none rfl) rfl (ex_not rfl) ?_
        refine JL_q (wants_none rfl) rfl (ex_move rfl) ?_
        refine JL_cond (fun h36 => ?_) (fun h36 => ?_)
        · refine JL_passed rfl rfl rfl h36 ?_
          refine JL_passed rfl rfl rfl h36 ?_
          refine JL_passed rfl rfl rfl h36 ?_
          refine JL_q (wants_none rfl) rfl (ex_pick_true rfl h36 rfl) ?_
          refine JL_nil ?_
          refine N_then ?_
          refine J_if_true rfl rfl ?_
          refine J_seq ?_
          refine J_region ?_
          refine JL_q (wants_none rfl) rfl (ex_assign rfl) ?_
          refine JL_nil ?_
          refine N_then ?_
          refine J_ret ?_
          refine N_mid_ret ?_
          refine N_then_ret ?_
          exact N_ret1 rfl (rv_tmp rfl) (fun w hh => ⟨(), rfl, hh.sel [] rfl⟩)
        · refine JL_q (wants_some rfl rfl rfl h36) rfl (ex_move rfl) ?_
          refine JL_q (wants_some rfl rfl rfl h36) rfl (ex_move rfl) ?_
          refine JL_q (wants_some rfl rfl rfl h36) rfl (ex_neq rfl rfl) ?_
          refine JL_q (wants_none rfl) rfl (ex_pick_false rfl h36 rfl) ?_
          refine JL_nil ?_
          refine N_then ?_
          refine J_if rfl (fun h37 => ?_) (fun h37 => ?_)
          · refine J_seq ?_
            refine J_region ?_
            refine JL_q (wants_none rfl) rfl (ex_assign rfl) ?_
            refine JL_nil ?_
            refine N_then ?_
            refine J_ret ?_
            refine N_mid_ret ?_
            refine N_then_ret ?_
            exact N_ret1 rfl (rv_tmp rfl) (fun w hh => ⟨(), rfl, hh.sel [] rfl⟩)
          · refine J_skip ?_
            exact N_meet' () ⟨rfl, rfl, rfl, rfl, rfl, rfl, rfl, rfl, rfl, rfl, trivial⟩ [14, 11, 13, 12, 10, 6, 5, 4, 2, 3, 1, 0] rfl rfl
      · refine N_then ?_
        refine J_seq ?_
        refine J_seq ?_
        refine J_draw [] (by kernel_rfl) ?_
        refine JP_take (i := 0) [0, 1, 2, 3, 4, 5, 6, 7, 8, 9, 10, 11] [] rfl (by kernel_rfl) (by kernel_rfl) (by kernel_rfl) rfl rfl (wants_none rfl) rfl (ex_load_bx_agg 7 ti_39 rfl rfl rfl rfl) ?_
        refine JP_take (i := 1) [0, 1, 2, 3, 4, 5, 6, 7, 8, 9, 10, 11] [] rfl (by kernel_rfl) (by kernel_rfl) (by kernel_rfl) rfl rfl (wants_none rfl) rfl (ex_load_bx_agg 1 ti_30 rfl rfl rfl rfl) ?_
        refine JP_go [0, 1, 2, 3, 4, 5, 6, 7, 8, 9, 10, 11] [] rfl rfl rfl (fun w39 h1_40 hp38 => ?_)
        refine JD_bnd fun r41 hr42 => ?_
        refine JD_one (i := 2) (by kernel_rfl) ?_
        refine JO_call rfl (wants_none rfl) rfl Try.call24 rfl (Ca_self (fun _ => rfl) fun w hh => c_laws_toMachine _ w (fun _ hk => hk.elim) _ _ (GMachine.rdmk (Rd.mk_int _ _ _) (Rd.mk_int _ _ _) (hh.rd0 0 rfl)) _ hr42) (fun x43 => ?_)
        refine JD_bnd fun r44 hr45 => ?_
        refine JD_one (i := 3) (by kernel_rfl) ?_
        refine JO_call rfl (wants_none rfl) rfl Try.call28 rfl (Ca_of0 fun w hh => c_laws_eqMachine _ w (fun _ hk => hk.elim) _ _ (GMachine.rdmk (Rd.mk_int _ _ _) (Rd.mk_int _ _ _) (hh.ow0 7 rfl)) _ _ (GMachine.rdmk (Rd.mk_int _ _ _) (Rd.mk_int _ _ _) (hh.ow0 0 rfl)) _ hr45) (fun _ => ?_)
        refine JD_take (i := 4) hp38 rfl (by kernel_rfl) (by kernel_rfl) (by kernel_rfl) (wants_none rfl) rfl (ex_not rfl) ?_
        refine JD_done (by kernel_rfl) ?_
        refine N_then ?_
        refine J_if rfl (fun h46 => ?_) (fun h46 => ?_)
        · refine J_seq ?_
          refine J_region ?_
          refine JL_q (wants_none rfl) rfl (ex_assign rfl) ?_
          refine JL_nil ?_
          refine N_then ?_
          refine J_ret ?_
          refine N_then_ret ?_
          exact N_ret1 rfl (rv_tmp rfl) (fun w hh => ⟨(), rfl, hh.sel [] rfl⟩)
        · refine J_skip ?_
          refine N_then ?_
          refine J_seq ?_
          refine J_seq ?_
          refine J_draw [] (by kernel_rfl) ?_
          refine JP_take (i := 0) [0, 1, 2, 3, 4, 5, 6, 7, 8, 9, 10, 11, 12] [] rfl (by kernel_rfl) (by kernel_rfl) (by kernel_rfl) rfl rfl (wants_none rfl) rfl (ex_load_bx_agg 11 ti_34 rfl rfl rfl rfl) ?_
          refine JP_take (i := 1) [0, 1, 2, 3, 4, 5, 6, 7, 8, 9, 10, 11, 12] [] rfl (by kernel_rfl) (by kernel_rfl) (by kernel_rfl) rfl rfl (wants_none rfl) rfl (ex_load_bx_agg 5 ti_61 rfl rfl rfl rfl) ?_
          refine JP_go [0, 1, 2, 3, 4, 5, 6, 7, 8, 9, 10, 11, 12] [] rfl rfl rfl (fun w48 h1_49 hp47 => ?_)
          refine JD_bnd fun r50 hr51 => ?_
          refine JD_one (i := 2) (by kernel_rfl) ?_
          refine JO_call rfl (wants_none rfl) rfl Try.call45 rfl (Ca_self (fun _ => rfl) fun w hh => c_laws_toConfig _ w (fun _ hk => hk.elim) _ _ (GConfig.rdmk (Rd.mk_int _ _ _) (hh.rd0 3 rfl) (hh.rd0 4 rfl)) _ hr51) (fun x52 => ?_)
          obtain ⟨x52_0, x52_1⟩ := x52
          refine JD_bnd fun r53 hr54 => ?_
          refine JD_one (i := 3) (by kernel_rfl) ?_
          refine JO_call rfl (wants_none rfl) rfl Try.call27 rfl (Ca_of0 fun w hh => c_laws_eqConfig _ w (fun _ hk => hk.elim) _ _ (GConfig.rdmk (Rd.mk_int _ _ _) (hh.ow0 11 rfl) (hh.ow0 12 rfl)) _ _ (GConfig.rdmk (Rd.mk_int _ _ _) (hh.ow0 0 rfl) (hh.ow0 1 rfl)) _ hr54) (fun _ => ?_)
          refine JD_take (i := 4) hp47 rfl (by kernel_rfl) (by kernel_rfl) (by kernel_rfl) (wants_none rfl) rfl (ex_not rfl) ?_
          refine JD_done (by kernel_rfl) ?_
          refine N_then ?_
          refine J_if rfl (fun h55 => ?_) (fun h55 => ?_)
          · refine J_seq ?_
            refine J_region ?_
            refine JL_q (wants_none rfl) rfl (ex_assign rfl) ?_
            refine JL_nil ?_
            refine N_then ?_
            refine J_ret ?_
            refine N_then_ret ?_
            exact N_ret1 rfl (rv_tmp rfl) (fun w hh => ⟨(), rfl, hh.sel [] rfl⟩)
          · refine J_skip ?_
            refine N_then ?_
            refine J_seq ?_
            refine J_region ?_
            refine JL_q (wants_none rfl) rfl (ex_assign rfl) ?_
            refine JL_nil ?_
            refine N_then ?_
            refine J_seq ?_
            refine J_region ?_
            refine JL_q (wants_none rfl) rfl (ex_load_bx_agg 10 ti_39 rfl rfl rfl rfl) ?_
            refine JL_q (wants_none rfl) rfl (ex_move rfl) ?_
            refine JL_inline (wants_none rfl) rfl Try.call30 rfl Try.func30 rfl Try.ntmps30 rfl rfl (fun K_ hK56 => ?_)
            refine J_seq ?_
            refine J_region ?_
            refine JL_st (wants_none rfl) rfl (st_box' rfl (fun w hh => (cv_aggs ⟨cv_int, cv_int, (hh.cv_ow 9 rfl), trivial⟩))) (fun b57 => ?_)
            refine JL_q (wants_none rfl) rfl (ex_assign rfl) ?_
            refine JL_nil ?_
            refine N_then ?_
            refine J_seq ?_
            refine J_region ?_
            refine JL_q (wants_none rfl) rfl (ex_fieldAddr fi_39_2 rfl rfl) ?_
            refine JL_q (wants_none rfl) rfl (ex_load_bx 0 ti_37 rfl rfl rfl) ?_
            refine JL_q (wants_none rfl) rfl (ex_move rfl) ?_
            refine JL_bnd fun r58 hr59 => ?_
            refine JL_ctx (fun w hh => hh.tokf 10 rfl rfl) ?_
            refine JL_mark 0 [1, 2, 3, 4, 6, 9, 10, 12, 13, 14, 15, 16] mk_laws_markRuleS (wants_none rfl) rfl Try.call85 rfl rfl rfl rfl ((((SH.start hA).start_rd rfl hp0_0).start_rd rfl hp1_0).start_rd rfl hp1_1) rfl hr59 ?_
            refine JL_q (wants_none rfl) rfl (ex_assign rfl) ?_
            refine JL_nil ?_
            refine N_then ?_
            refine J_seq ?_
            refine J_region ?_
            refine JL_q (wants_none rfl) rfl (ex_move rfl) ?_
            refine JL_q (wants_none rfl) rfl (ex_assign rfl) ?_
            refine JL_nil ?_
            refine N_then ?_
            refine J_ret ?_
            refine N_inl1 hK56 rfl (rv_tmp rfl) ?_
            refine JL_q (wants_none rfl) rfl (ex_assign rfl) ?_
            refine JL_nil ?_
            refine N_then ?_
            refine J_seq ?_
            refine J_region ?_
            refine JL_q (wants_none rfl) rfl (ex_load_bx_agg 15 ti_34 rfl rfl rfl rfl) ?_
            refine JL_q (wants_none rfl) rfl (ex_move rfl) ?_
            refine JL_inline (wants_none rfl) rfl Try.call32 rfl Try.func32 rfl Try.ntmps32 rfl rfl (fun K_ hK60 => ?_)
            refine J_seq ?_
            refine J_region ?_
            refine JL_st (wants_none rfl) rfl (st_box' rfl (fun w hh => (cv_aggs ⟨cv_int, (hh.cv_ow 13 rfl), (hh.cv_ow 14 rfl), trivial⟩))) (fun b61 => ?_)
            refine JL_q (wants_none rfl) rfl (ex_assign rfl) ?_
            refine JL_nil ?_
            refine N_then ?_
            refine J_seq ?_
            refine J_region ?_
            refine JL_q (wants_none rfl) rfl (ex_fieldAddr fi_34_1 rfl rfl) ?_
            refine JL_q (wants_none rfl) rfl (ex_load_bx 0 ti_31 rfl rfl rfl) ?_
            refine JL_q (wants_none rfl) rfl (ex_move rfl) ?_
            refine JL_bnd fun r62 hr63 => ?_
            refine JL_ctx (fun w hh => hh.tokf 14 rfl rfl) ?_
            refine JL_mark 0 [1, 3, 7, 8, 9, 10, 11, 12, 13, 14, 16, 17, 18] mk_laws_markInt64S (wants_none rfl) rfl Try.call31 rfl rfl rfl rfl ((((SH.start hA).start_rd rfl hp0_0).start_rd rfl hp1_0).start_rd rfl hp1_1) rfl hr63 ?_
            refine JL_ctx (fun w hh => hh.tkn_rd 6 rfl) ?_
            refine JL_q (wants_none rfl) rfl (ex_assign rfl) ?_
            refine JL_nil ?_
            refine N_then ?_
            refine J_seq ?_
            refine J_region ?_
            refine JL_q (wants_none rfl) rfl (ex_fieldAddr fi_34_2 rfl rfl) ?_
            refine JL_q (wants_none rfl) rfl (ex_load_bx 6 ti_31 rfl rfl rfl) ?_
            refine JL_q (wants_none rfl) rfl (ex_move rfl) ?_
            refine JL_bnd fun r64 hr65 => ?_
            refine JL_ctx (fun w hh => hh.tokf 16 rfl rfl) ?_
            refine JL_mark 0 [3, 7, 8, 9, 10, 11, 12, 13, 14, 15, 16, 18, 19] mk_laws_markInt64S (wants_none rfl) rfl Try.call31 rfl rfl rfl rfl ((((SH.start hA).start_rd rfl hp0_0).start_rd rfl hp1_0).start_rd rfl hp1_1) rfl hr65 ?_
            refine JL_ctx (fun w hh => hh.tkn_rd 7 rfl) ?_
            refine JL_ctx (fun w hh => hh.tkn_rd 6 rfl) ?_
            refine JL_q (wants_none rfl) rfl (ex_assign rfl) ?_
            refine JL_nil ?_
            refine N_then ?_
            refine J_seq ?_
            refine J_region ?_
            refine JL_q (wants_none rfl) rfl (ex_move rfl) ?_
            refine JL_q (wants_none rfl) rfl (ex_assign rfl) ?_
            refine JL_nil ?_
            refine N_then ?_
            refine J_ret ?_
            refine N_inl1 hK60 rfl (rv_tmp rfl) ?_
            refine JL_q (wants_none rfl) rfl (ex_assign rfl) ?_
            refine JL_nil ?_
            refine N_then ?_
            refine J_seq ?_
            refine J_cut' (S' := Unit) (G' := Unit) (fun _ _ => [(2, .int .i64 p2), (3, .int .i64 p3), (4, .pointer (some ⟨b1, 0, none⟩)), (5, .pointer (some ⟨b2, 0, none⟩)), (10, x20), (11, .int .i64 r18.2), (14, x31)]) (fun _ _ => [.rd v0_0 p0.Rules, .bx b1 30 [.int .i64 p0.Symbols, .int .i64 p0.States, v0_0], .rd v1_0 p1.Left, .rd v1_1 p1.Right, .bx b2 61 [.int .i64 p1.State, v1_0, v1_1], .ow 2 x20 r18.1, .ow 2 x31 r29.1]) ?_ (fun s66 g67 => ?_)
            · refine J_seq ?_
              refine J_region ?_
              refine JL_q (wants_none rfl) rfl (ex_move rfl) ?_
              refine JL_q (wants_none rfl) rfl (ex_lss rfl rfl) ?_
              refine JL_q (wants_none rfl) rfl (ex_move rfl) ?_
              refine JL_cond (fun h68 => ?_) (fun h68 => ?_)
              · refine JL_passed rfl rfl rfl h68 ?_
                refine JL_passed rfl rfl rfl h68 ?_
                refine JL_passed rfl rfl rfl h68 ?_
                refine JL_passed rfl rfl rfl h68 ?_
                refine JL_q (wants_none rfl) rfl (ex_pick_true rfl h68 rfl) ?_
                refine JL_q (wants_none rfl) rfl (ex_move rfl) ?_
                refine JL_passed rfl rfl rfl rfl ?_
                refine JL_passed rfl rfl rfl rfl ?_
                refine JL_passed rfl rfl rfl rfl ?_
                refine JL_q (wants_none rfl) rfl (ex_pick_true rfl rfl rfl) ?_
                refine JL_nil ?_
                refine N_then ?_
                refine J_if_true rfl rfl ?_
                refine J_seq ?_
                refine J_region ?_
                refine JL_q (wants_none rfl) rfl (ex_assign rfl) ?_
                refine JL_nil ?_
                refine N_then ?_
                refine J_ret ?_
                refine N_mid_ret ?_
                refine N_then_ret ?_
                exact N_ret1 rfl (rv_tmp rfl) (fun w hh => ⟨(), rfl, hh.sel [] rfl⟩)
              · refine JL_q (wants_some rfl rfl rfl h68) rfl (ex_move rfl) ?_
                refine JL_q (wants_some rfl rfl rfl h68) rfl (ex_move rfl) ?_
                refine JL_bnd fun r69 hr70 => ?_
                refine JL_call (wants_some rfl rfl rfl h68) rfl Try.call29 rfl (Ca_of0 fun w hh => c_laws_eqInt64S _ w (fun _ hk => hk.elim) _ _ (hh.ow0 19 rfl) _ _ (hh.ow0 16 rfl) _ hr70) (fun _ => ?_)
                refine JL_q (wants_some rfl rfl rfl h68) rfl (ex_not rfl) ?_
                refine JL_q (wants_none rfl) rfl (ex_pick_false rfl h68 rfl) ?_
                refine JL_q (wants_none rfl) rfl (ex_move rfl) ?_
                refine JL_cond (fun h71 => ?_) (fun h71 => ?_)
                · refine JL_passed rfl rfl rfl h71 ?_
                  refine JL_passed rfl rfl rfl h71 ?_
                  refine JL_passed rfl rfl rfl h71 ?_
                  refine JL_q (wants_none rfl) rfl (ex_pick_true rfl h71 rfl) ?_
                  refine JL_nil ?_
                  refine N_then ?_
                  refine J_if_true rfl rfl ?_
                  refine J_seq ?_
                  refine J_region ?_
                  refine JL_q (wants_none rfl) rfl (ex_assign rfl) ?_
                  refine JL_nil ?_
                  refine N_then ?_
                  refine J_ret ?_
                  refine N_mid_ret ?_
                  refine N_then_ret ?_
                  exact N_ret1 rfl (rv_tmp rfl) (fun w hh => ⟨(), rfl, hh.sel [] rfl⟩)
                · refine JL_q (wants_some rfl rfl rfl h71) rfl (ex_move rfl) ?_
                  refine JL_q (wants_some rfl rfl rfl h71) rfl (ex_move rfl) ?_
                  refine JL_q (wants_some rfl rfl rfl h71) rfl (ex_neq rfl rfl) ?_
                  refine JL_q (wants_none rfl) rfl (ex_pick_false rfl h71 rfl) ?_
                  refine JL_nil ?_
                  refine N_then ?_
                  refine J_if rfl (fun h72 => ?_) (fun h72 => ?_)
                  · refine J_seq ?_
                    refine J_region ?_
                    refine JL_q (wants_none rfl) rfl (ex_assign rfl) ?_
                    refine JL_nil ?_
                    refine N_then ?_
                    refine J_ret ?_
                    refine N_mid_ret ?_
                    refine N_then_ret ?_
                    exact N_ret1 rfl (rv_tmp rfl) (fun w hh => ⟨(), rfl, hh.sel [] rfl⟩)
                  · refine J_skip ?_
                    exact N_meet' () ⟨rfl, rfl, rfl, rfl, rfl, rfl, rfl, trivial⟩ [6, 14, 5, 4, 15, 16, 19] rfl rfl
            · refine N_then ?_
              refine J_seq ?_
              refine J_region ?_
              refine JL_q (wants_none rfl) rfl (ex_assign rfl) ?_
              refine JL_nil ?_
              refine N_then ?_
              refine J_seq ?_
              refine J_region ?_
              refine JL_q (wants_none rfl) rfl (ex_move rfl) ?_
              refine JL_q (wants_none rfl) rfl (ex_move rfl) ?_
              refine JL_bnd fun r73 hr74 => ?_
              refine JL_ctx (fun w hh => hh.tokf 6 rfl rfl) ?_
              refine JL_mark 0 [2, 5, 6] mk_laws_markInt64S (wants_none rfl) rfl Try.call31 rfl rfl rfl rfl ((((SH.start hA).start_rd rfl hp0_0).start_rd rfl hp1_0).start_rd rfl hp1_1) rfl hr74 ?_
              refine JL_q (wants_none rfl) rfl (ex_assign rfl) ?_
              refine JL_nil ?_
              refine N_then ?_
              refine J_seq ?_
              refine J_region ?_
              refine JL_q (wants_none rfl) rfl (ex_assign rfl) ?_
              refine JL_nil ?_
              refine N_then ?_
              refine J_seq ?_
              refine J_region ?_
              refine JL_q (wants_none rfl) rfl (ex_move rfl) ?_
              refine JL_q (wants_none rfl) rfl (ex_move rfl) ?_
              refine JL_bnd fun r75 hr76 => ?_
              refine JL_call (wants_none rfl) rfl Try.call47 rfl (Ca_of0 fun w hh => c_laws_heldInt64S _ w (fun _ hk => hk.elim) _ _ (hh.rd0 0 rfl) _ _ hr76) (fun _ => ?_)
              refine JL_q (wants_none rfl) rfl (ex_assign rfl) ?_
              refine JL_nil ?_
              refine N_then ?_
              refine J_seq ?_
              refine J_seq ?_
              refine J_region ?_
              refine JL_q (wants_none rfl) rfl (ex_move rfl) ?_
              refine JL_q (wants_none rfl) rfl (ex_lss rfl rfl) ?_
              refine JL_nil ?_
              refine N_then ?_
              refine J_if rfl (fun h77 => ?_) (fun h77 => ?_)
              · refine J_seq ?_
                refine J_region ?_
                refine JL_q (wants_none rfl) rfl (ex_assign rfl) ?_
                refine JL_nil ?_
                refine N_then ?_
                refine J_ret ?_
                refine N_then_ret ?_
                exact N_ret1 rfl (rv_tmp rfl) (fun w hh => ⟨(), rfl, hh.sel [] rfl⟩)
              · refine J_skip ?_
                refine N_then ?_
                refine J_seq ?_
                refine J_seq ?_
                refine J_region ?_
                refine JL_q (wants_none rfl) rfl (ex_move rfl) ?_
                refine JL_q (wants_none rfl) rfl (ex_move rfl) ?_
                refine JL_q (wants_none rfl) rfl (ex_neq rfl rfl) ?_
                refine JL_nil ?_
                refine N_then ?_
                refine J_if rfl (fun h78 => ?_) (fun h78 => ?_)
                · refine J_seq ?_
                  refine J_region ?_
                  refine JL_q (wants_none rfl) rfl (ex_assign rfl) ?_
                  refine JL_nil ?_
                  refine N_then ?_
                  refine J_ret ?_
                  refine N_then_ret ?_
                  exact N_ret1 rfl (rv_tmp rfl) (fun w hh => ⟨(), rfl, hh.sel [] rfl⟩)
                · refine J_skip ?_
                  refine N_then ?_
                  refine J_seq ?_
                  refine J_draw [] (by kernel_rfl) ?_
                  refine JP_take (i := 0) [0, 1, 2, 3, 4, 5, 6, 7] [] rfl (by kernel_rfl) (by kernel_rfl) (by kernel_rfl) rfl rfl (wants_none rfl) rfl (ex_load_bx_agg 5 ti_30 rfl rfl rfl rfl) ?_
                  refine JP_take (i := 2) [0, 1, 2, 3, 4, 5, 6, 7] [] rfl (by kernel_rfl) (by kernel_rfl) (by kernel_rfl) rfl rfl (wants_none rfl) rfl (ex_load_bx_agg 6 ti_61 rfl rfl rfl rfl) ?_
                  refine JP_take (i := 4) [0, 1, 2, 3, 4, 5, 6, 7] [] rfl (by kernel_rfl) (by kernel_rfl) (by kernel_rfl) rfl rfl (wants_none rfl) rfl (ex_move rfl) ?_
                  refine JP_take (i := 5) [0, 1, 2, 3, 4, 5, 6, 7] [] rfl (by kernel_rfl) (by kernel_rfl) (by kernel_rfl) rfl rfl (wants_none rfl) rfl (ex_move rfl) ?_
                  refine JP_go [0, 1, 2, 3, 4, 5, 6, 7] [] rfl rfl rfl (fun w80 h1_81 hp79 => ?_)
                  refine JD_bnd fun r82 hr83 => ?_
                  refine JD_one (i := 1) (by kernel_rfl) ?_
                  refine JO_call rfl (wants_none rfl) rfl Try.call24 rfl (Ca_self (fun _ => rfl) fun w hh => c_laws_toMachine _ w (fun _ hk => hk.elim) _ _ (GMachine.rdmk (Rd.mk_int _ _ _) (Rd.mk_int _ _ _) (hh.rd0 4 rfl)) _ hr83) (fun x84 => ?_)
                  refine JD_bnd fun r85 hr86 => ?_
                  refine JD_one (i := 3) (by kernel_rfl) ?_
                  refine JO_call rfl (wants_none rfl) rfl Try.call45 rfl (Ca_self (fun _ => rfl) fun w hh => c_laws_toConfig _ w (fun _ hk => hk.elim) _ _ (GConfig.rdmk (Rd.mk_int _ _ _) (hh.rd0 4 rfl) (hh.rd0 3 rfl)) _ hr86) (fun x87 => ?_)
                  obtain ⟨x87_0, x87_1⟩ := x87
                  refine JD_bnd fun r88 hr89 => ?_
                  refine JD_one (i := 6) (by kernel_rfl) ?_
                  refine JO_call rfl (wants_none rfl) rfl Try.call52 rfl (Ca_self (fun _ => rfl) fun w hh => c_impl_RowOfConfig _ w (fun _ hk => hk.elim) _ _ (GMachine.rdmk (Rd.mk_int _ _ _) (Rd.mk_int _ _ _) (hh.ow0 2 rfl)) _ _ (GConfig.rdmk (Rd.mk_int _ _ _) (hh.ow0 0 rfl) (hh.ow0 1 rfl)) _ _ _ hr89) (fun x90 => ?_)
                  refine JD_take (i := 7) hp79 rfl (by kernel_rfl) (by kernel_rfl) (by kernel_rfl) (wants_none rfl) rfl (ex_move rfl) ?_
                  refine JD_take (i := 8) hp79 rfl (by kernel_rfl) (by kernel_rfl) (by kernel_rfl) (wants_none rfl) rfl (ex_extract rfl rfl) ?_
                  refine JD_take (i := 9) hp79 rfl (by kernel_rfl) (by kernel_rfl) (by kernel_rfl) (wants_none rfl) rfl (ex_extract rfl rfl) ?_
                  refine JD_take (i := 10) hp79 rfl (by kernel_rfl) (by kernel_rfl) (by kernel_rfl) (wants_none rfl) rfl (ex_assign rfl) ?_
                  refine JD_take (i := 11) hp79 rfl (by kernel_rfl) (by kernel_rfl) (by kernel_rfl) (wants_none rfl) rfl (ex_assign rfl) ?_
                  refine JD_done (by kernel_rfl) ?_
                  refine N_then ?_
                  refine J_seq ?_
                  refine J_seq ?_
                  refine J_region ?_
                  refine JL_q (wants_none rfl) rfl (ex_move rfl) ?_
                  refine JL_q (wants_none rfl) rfl (ex_move rfl) ?_
                  refine JL_bnd fun r91 hr92 => ?_
                  refine JL_call (wants_none rfl) rfl Try.call29 rfl (Ca_of0 fun w hh => c_laws_eqInt64S _ w (fun _ hk => hk.elim) _ _ (hh.ow0 0 rfl) _ _ (hh.ow0 11 rfl) _ hr92) (fun _ => ?_)
                  refine JL_q (wants_none rfl) rfl (ex_not rfl) ?_
                  refine JL_q (wants_none rfl) rfl (ex_move rfl) ?_
                  refine JL_cond (fun h93 => ?_) (fun h93 => ?_)
                  · refine JL_passed rfl rfl rfl h93 ?_
                    refine JL_passed rfl rfl rfl h93 ?_
                    refine JL_passed rfl rfl rfl h93 ?_
                    refine JL_q (wants_none rfl) rfl (ex_pick_true rfl h93 rfl) ?_
                    refine JL_nil ?_
                    refine N_then ?_
                    refine J_if_true rfl rfl ?_
                    refine J_seq ?_
                    refine J_region ?_
                    refine JL_q (wants_none rfl) rfl (ex_assign rfl) ?_
                    refine JL_nil ?_
                    refine N_then ?_
                    refine J_ret ?_
                    refine N_then_ret ?_
                    exact N_ret1 rfl (rv_tmp rfl) (fun w hh => ⟨(), rfl, hh.sel [] rfl⟩)
                  · refine JL_q (wants_some rfl rfl rfl h93) rfl (ex_move rfl) ?_
                    refine JL_q (wants_some rfl rfl rfl h93) rfl (ex_move rfl) ?_
                    refine JL_q (wants_some rfl rfl rfl h93) rfl (ex_neq rfl rfl) ?_
                    refine JL_q (wants_none rfl) rfl (ex_pick_false rfl h93 rfl) ?_
                    refine JL_nil ?_
                    refine N_then ?_
                    refine J_if rfl (fun h94 => ?_) (fun h94 => ?_)
                    · refine J_seq ?_
                      refine J_region ?_
                      refine JL_q (wants_none rfl) rfl (ex_assign rfl) ?_
                      refine JL_nil ?_
                      refine N_then ?_
                      refine J_ret ?_
                      refine N_then_ret ?_
                      exact N_ret1 rfl (rv_tmp rfl) (fun w hh => ⟨(), rfl, hh.sel [] rfl⟩)
                    · refine J_skip ?_
                      refine N_then ?_
                      refine J_seq ?_
                      refine J_region ?_
                      refine JL_q (wants_none rfl) rfl (ex_assign rfl) ?_
                      refine JL_nil ?_
                      refine N_then ?_
                      refine J_seq ?_
                      refine J_region ?_
                      refine JL_q (wants_none rfl) rfl (ex_move rfl) ?_
                      refine JL_q (wants_none rfl) rfl (ex_move rfl) ?_
                      refine JL_bnd fun r95 hr96 => ?_
                      refine JL_call (wants_none rfl) rfl Try.call47 rfl (Ca_of0 fun w hh => c_laws_heldInt64S _ w (fun _ hk => hk.elim) _ _ (hh.rd0 4 rfl) _ _ hr96) (fun _ => ?_)
                      refine JL_q (wants_none rfl) rfl (ex_assign rfl) ?_
                      refine JL_nil ?_
                      refine N_then ?_
                      refine J_seq ?_
                      refine J_seq ?_
                      refine J_region ?_
                      refine JL_q (wants_none rfl) rfl (ex_move rfl) ?_
                      refine JL_q (wants_none rfl) rfl (ex_lss rfl rfl) ?_
                      refine JL_nil ?_
                      refine N_then ?_
                      refine J_if rfl (fun h97 => ?_) (fun h97 => ?_)
                      · refine J_seq ?_
                        refine J_region ?_
                        refine JL_q (wants_none rfl) rfl (ex_assign rfl) ?_
                        refine JL_nil ?_
                        refine N_then ?_
                        refine J_ret ?_
                        refine N_then_ret ?_
                        exact N_ret1 rfl (rv_tmp rfl) (fun w hh => ⟨(), rfl, hh.sel [] rfl⟩)
                      · refine J_skip ?_
                        refine N_then ?_
                        refine J_seq ?_
                        refine J_seq ?_
                        refine J_region ?_
                        refine JL_q (wants_none rfl) rfl (ex_move rfl) ?_
                        refine JL_q (wants_none rfl) rfl (ex_move rfl) ?_
                        refine JL_q (wants_none rfl) rfl (ex_neq rfl rfl) ?_
                        refine JL_nil ?_
                        refine N_then ?_
                        refine J_if rfl (fun h98 => ?_) (fun h98 => ?_)
                        · refine J_seq ?_
                          refine J_region ?_
                          refine JL_q (wants_none rfl) rfl (ex_assign rfl) ?_
                          refine JL_nil ?_
                          refine N_then ?_
                          refine J_ret ?_
                          refine N_then_ret ?_
                          exact N_ret1 rfl (rv_tmp rfl) (fun w hh => ⟨(), rfl, hh.sel [] rfl⟩)
                        · refine J_skip ?_
                          refine N_then ?_
                          refine J_seq ?_
                          refine J_region ?_
                          refine JL_q (wants_none rfl) rfl (ex_assign rfl) ?_
                          refine JL_nil ?_
                          refine N_then ?_
                          refine J_ret ?_
                          exact N_ret1 rfl (rv_tmp rfl) (fun w hh => ⟨(), rfl, hh.sel [] rfl⟩)

end Go.Proofs.Ytfklpjdenigohaa
