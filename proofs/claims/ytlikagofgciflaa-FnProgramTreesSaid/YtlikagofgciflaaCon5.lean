/-
  Each function of the program computes what its plain function says: printed by program. No condition.
-/
import Derived.Test.YtlikagofgciflaaFn
import Derived.Test.YtlikagofgciflaaInf
import Derived.Test.YtlikagofgciflaaCon1
import Derived.Test.YtlikagofgciflaaCon2
import Derived.Test.YtlikagofgciflaaCon3
import Derived.Test.YtlikagofgciflaaCon4
namespace Go.Proofs.Ytlikagofgciflaa
open Go Go.Tc Go.Fn
set_option linter.unusedVariables false
set_option maxHeartbeats 40000000 in
theorem c_impl_SameWhile (A : Nat → Prop) (w : World) (hA : ∀ k, A k → k < w.heap.size) (v0_ : Value) (p0 : (List GCommand)) (hp0 : Rd A w v0_ p0) (v1_ : Value) (p1 : (List GCommand)) (hp1 : Rd A w v1_ p1) (r : Bool) (hr : F_impl_SameWhile p0 p1 = some r) :
  Con Try.prog 11 [v0_, v1_] A w (fun x_ : Unit => .bool r) (fun x_ => []) := by
 refine Con_of (v := fun (r : Bool) (x_ : Unit) => .bool r) (fs := fun r x_ => []) Try.func11 rfl Try.ntmps11 rfl (((SH.start hA).start_rd rfl hp0).start_rd rfl hp1) rfl ?_ hr
 unfold F_impl_SameWhile
 refine J_sr ?_
 refine JA rfl rfl ?_
 refine JL_nt ?_
 refine J_sr ?_
 refine JM rfl rfl ?_
 refine JM rfl rfl ?_
 refine JL_inline wn rfl Try.call24 rfl Try.func24 rfl Try.ntmps24 rfl rfl (fun K_ hK1 => ?_)
 refine J_sr ?_
 refine JA rfl rfl ?_
 refine JL_nt ?_
 refine J_seq ?_
 refine J_sr ?_
 refine JM rfl rfl ?_
 refine JL_q wn rfl (ex_len_rd 1 Try.underlying24 rfl rfl) ?_
 refine JM rfl rfl ?_
 refine JL_q wn rfl (ex_len_rd 0 Try.underlying24 rfl rfl) ?_
 refine JL_q wn rfl (ex_neq rfl rfl) ?_
 refine JL_nt ?_
 refine J_if rfl (fun h2 => ?_) (fun h2 => ?_)
 ·refine J_sr ?_
  refine JA rfl rfl ?_
  refine JL_nt ?_
  refine J_ret ?_
  refine N_then_ret ?_
  refine N_inl1 hK1 rfl (rv_tmp rfl) ?_
  refine JA rfl rfl ?_
  refine JL_nt ?_
  refine J_ret ?_
  exact N_ret1 rfl (rv_tmp rfl) (fun w hh => ⟨(), rfl, hh.sel [] rfl⟩)
 ·refine J_skip ?_
  refine N_then ?_
  refine J_seq ?_
  refine J_sr ?_
  refine JM rfl rfl ?_
  refine JL_q wn rfl (ex_len_rd 1 Try.underlying24 rfl rfl) ?_
  refine JM rfl rfl ?_
  refine JL_nt ?_
  refine J_loop' (S := Int) (G := Unit) (F_impl_SameWhile_L1 p0 p1) (fun s3 _ => [(1, v1_), (2, .func (.func 25) #[] #[]), (15, v0_), (16, .int .i64 (p0.length : Int)), (17, .int .i64 s3)]) (fun s3 _ => [.rd v1_ p1, .rd v0_ p0]) 0 () ⟨rfl, rfl, rfl, rfl, rfl, trivial⟩ [0, 1] rfl rfl (fun s3 g4 => ?_) (fun s3 g4 => ?_)
  ·unfold F_impl_SameWhile_L1
   refine J_sr ?_
   refine JL_q wn rfl (ex_lss rfl rfl) ?_
   refine JL_nt ?_
   refine J_seq ?_
   refine J_if rfl (fun h5 => ?_) (fun h5 => ?_)
   ·refine J_skip ?_
    refine N_then ?_
    refine J_seq ?_
    refine J_block ?_
    refine J_sr ?_
    refine JM rfl rfl ?_
    refine JL_bnd fun y6 hy7 => ?_
    refine JL_st wn rfl (st_index 1 Try.underlying24 ti_54 rfl rfl rfl hy7) (fun q8 => ?_)
    refine JL_st wn rfl (st_load_pt_o 0 (GCommand.opens _) ti_54 rfl rfl) (fun v9 => ?_)
    refine JL_st wn rfl (st_alloc zi_54 rfl) (fun b10 => ?_)
    refine JA rfl rfl ?_
    refine JL_sk wn (sk_store_bx' 0 ti_54 rfl rfl (fun w hh => (cv_aggs ⟨cv_int, cv_int, cv_int, (hh.cv 1 rfl), trivial⟩)) rfl rfl rfl rfl) ?_
    refine JL_nt ?_
    refine J_sr ?_
    refine JM rfl rfl ?_
    refine JM rfl rfl ?_
    refine JL_bnd fun y11 hy12 => ?_
    refine JL_st wn rfl (st_index 3 Try.underlying24 ti_54 rfl rfl rfl hy12) (fun q13 => ?_)
    refine JL_st wn rfl (st_load_pt_o 0 (GCommand.opens _) ti_54 rfl rfl) (fun v14 => ?_)
    refine JL_st wn rfl (st_alloc zi_54 rfl) (fun b15 => ?_)
    refine JL_sk wn (sk_store_bx' 0 ti_54 rfl rfl (fun w hh => (cv_aggs ⟨cv_int, cv_int, cv_int, (hh.cv 1 rfl), trivial⟩)) rfl rfl rfl rfl) ?_
    refine JL_nt ?_
    refine J_sr ?_
    refine JM rfl rfl ?_
    refine JL_q wn rfl (ex_load_bx_agg 3 ti_54 rfl rfl rfl rfl) ?_
    refine JL_q wn rfl (ex_load_bx_agg 0 ti_54 rfl rfl rfl rfl) ?_
    refine JL_bnd fun r16 hr17 => ?_
    refine JL_callv (args := [_, _]) (caps := []) wn rfl Try.call25 rfl rfl (Ca_of0 fun w hh => c_impl_sameCommand nowhere w (fun _ hk => hk.elim) _ _ (GCommand.rdmk (Rd.mk_int _ _ _) (Rd.mk_int _ _ _) (Rd.mk_int _ _ _) (hh.rd0 4 rfl)) _ _ (GCommand.rdmk (Rd.mk_int _ _ _) (Rd.mk_int _ _ _) (Rd.mk_int _ _ _) (hh.rd0 1 rfl))  _ hr17) (fun _ => ?_)
    refine JL_q wn rfl (ex_not rfl) ?_
    refine JL_nt ?_
    refine J_if rfl (fun h18 => ?_) (fun h18 => ?_)
    ·refine J_sr ?_
     refine JA rfl rfl ?_
     refine JL_nt ?_
     refine J_ret ?_
     refine N_block_ret ?_
     refine N_then_ret ?_
     refine N_round_reti ?_
     refine N_then_ret ?_
     refine N_inl1 hK1 rfl (rv_tmp rfl) ?_
     refine JA rfl rfl ?_
     refine JL_nt ?_
     refine J_ret ?_
     exact N_ret1 rfl (rv_tmp rfl) (fun w hh => ⟨(), rfl, hh.sel [] rfl⟩)
    ·refine J_skip ?_
     refine N_block ?_
     refine N_then ?_
     refine J_region ?_
     refine JL_q wn rfl (ex_add rfl rfl) ?_
     refine JM rfl rfl ?_
     refine JL_nil ?_
     exact N_next' () ⟨rfl, rfl, rfl, rfl, rfl, trivial⟩ [6, 7] rfl rfl
   ·refine J_exit ?_
    refine N_then_exit ?_
    exact N_break' () ⟨rfl, rfl, rfl, rfl, rfl, trivial⟩ [0, 1] rfl rfl
  ·refine N_then ?_
   refine J_sr ?_
   refine JA rfl rfl ?_
   refine JL_nt ?_
   refine J_ret ?_
   refine N_inl1 hK1 rfl (rv_tmp rfl) ?_
   refine JA rfl rfl ?_
   refine JL_nt ?_
   refine J_ret ?_
   exact N_ret1 rfl (rv_tmp rfl) (fun w hh => ⟨(), rfl, hh.sel [] rfl⟩)
set_option maxHeartbeats 40000000 in
theorem c_laws_r8Tree (A : Nat → Prop) (w : World) (hA : ∀ k, A k → k < w.heap.size) (v0_ : Value) (p0 : (List Bool)) (hp0 : Rd A w v0_ p0) (v1_ : Value) (p1 : (List Bool)) (hp1 : Rd A w v1_ p1) (r : Bool) (hr : F_laws_r8Tree p0 p1 = some r) :
  Con Try.prog 12 [v0_, v1_] A w (fun x_ : Unit => .bool r) (fun x_ => []) := by
 refine Con_of (v := fun (r : Bool) (x_ : Unit) => .bool r) (fs := fun r x_ => []) Try.func12 rfl Try.ntmps12 rfl (((SH.start hA).start_rd rfl hp0).start_rd rfl hp1) rfl ?_ hr
 unfold F_laws_r8Tree
 refine J_sr ?_
 refine JA rfl rfl ?_
 refine JL_nt ?_
 refine J_seq ?_
 refine J_sr ?_
 refine JM rfl rfl ?_
 refine JL_q wn rfl (ex_len_rd 1 Try.underlying25 rfl rfl) ?_
 refine JM rfl rfl ?_
 refine JL_q wn rfl (ex_len_rd 0 Try.underlying25 rfl rfl) ?_
 refine JL_q wn rfl (ex_neq rfl rfl) ?_
 refine JL_nt ?_
 refine J_if rfl (fun h1 => ?_) (fun h1 => ?_)
 ·refine J_sr ?_
  refine JA rfl rfl ?_
  refine JL_nt ?_
  refine J_ret ?_
  refine N_then_ret ?_
  exact N_ret1 rfl (rv_tmp rfl) (fun w hh => ⟨(), rfl, hh.sel [] rfl⟩)
 ·refine J_skip ?_
  refine N_then ?_
  refine J_seq ?_
  refine J_sr ?_
  refine JA rfl rfl ?_
  refine JL_nt ?_
  refine J_loop' (S := Int) (G := Unit) (F_laws_r8Tree_L1 p0 p1) (fun s2 _ => [(0, v0_), (1, v1_), (5, .int .i64 s2)]) (fun s2 _ => [.rd v0_ p0, .rd v1_ p1]) 0 () ⟨rfl, rfl, rfl, trivial⟩ [1, 0] rfl rfl (fun s2 g3 => ?_) (fun s2 g3 => ?_)
  ·unfold F_laws_r8Tree_L1
   refine J_seq ?_
   refine J_sr ?_
   refine JM rfl rfl ?_
   refine JM rfl rfl ?_
   refine JL_q wn rfl (ex_len_rd 0 Try.underlying25 rfl rfl) ?_
   refine JL_q wn rfl (ex_lss rfl rfl) ?_
   refine JL_nt ?_
   refine J_if rfl (fun h4 => ?_) (fun h4 => ?_)
   ·refine J_skip ?_
    refine N_then ?_
    refine J_seq ?_
    refine J_block ?_
    refine J_seq ?_
    refine J_draw [] (by kernel_rfl) ?_
    refine JP_take (i := 0) [0, 1] [] rfl (by kernel_rfl) (by kernel_rfl) (by kernel_rfl) rfl rfl wn rfl (ex_move rfl) ?_
    refine JP_take (i := 1) [0, 1] [] rfl (by kernel_rfl) (by kernel_rfl) (by kernel_rfl) rfl rfl wn rfl (ex_move rfl) ?_
    refine JP_bnd fun y5 hy6 => ?_
    refine JP_sq (i := 2) [] rfl (by kernel_rfl) (by kernel_rfl) (by kernel_rfl) rfl wn rfl (sq_index 0 Try.underlying25 ti_4 rfl rfl rfl hy6) (fun q7 => ?_)
    refine JP_sq (i := 3) [] rfl (by kernel_rfl) (by kernel_rfl) (by kernel_rfl) rfl wn rfl (sq_load_pt_o 0 (opens_bool _) ti_4 rfl rfl) (fun _ => ?_)
    refine JP_take (i := 4) [0, 1, 2] [] rfl (by kernel_rfl) (by kernel_rfl) (by kernel_rfl) rfl rfl wn rfl (ex_move rfl) ?_
    refine JP_take (i := 5) [0, 1, 2] [] rfl (by kernel_rfl) (by kernel_rfl) (by kernel_rfl) rfl rfl wn rfl (ex_move rfl) ?_
    refine JP_bnd fun y9 hy10 => ?_
    refine JP_sq (i := 6) [] rfl (by kernel_rfl) (by kernel_rfl) (by kernel_rfl) rfl wn rfl (sq_index 2 Try.underlying25 ti_4 rfl rfl rfl hy10) (fun q11 => ?_)
    refine JP_sq (i := 7) [] rfl (by kernel_rfl) (by kernel_rfl) (by kernel_rfl) rfl wn rfl (sq_load_pt_o 0 (opens_bool _) ti_4 rfl rfl) (fun _ => ?_)
    refine JP_take (i := 8) [0, 1, 2, 3] [] rfl (by kernel_rfl) (by kernel_rfl) (by kernel_rfl) rfl rfl wn rfl (ex_neq_bool Try.underlying4 rfl rfl) ?_
    refine JP_go [] [] rfl rfl rfl (fun _ _ _ => ?_)
    refine JD_done (by kernel_rfl) ?_
    refine N_then ?_
    refine J_if rfl (fun h13 => ?_) (fun h13 => ?_)
    ·refine J_sr ?_
     refine JA rfl rfl ?_
     refine JL_nt ?_
     refine J_ret ?_
     refine N_block_ret ?_
     refine N_then_ret ?_
     refine N_round_ret ?_
     refine N_then_ret ?_
     exact N_ret1 rfl (rv_tmp rfl) (fun w hh => ⟨(), rfl, hh.sel [] rfl⟩)
    ·refine J_skip ?_
     refine N_block ?_
     refine N_then ?_
     refine J_region ?_
     refine JM rfl rfl ?_
     refine JL_q wn rfl (ex_add rfl rfl) ?_
     refine JA rfl rfl ?_
     refine JL_nil ?_
     exact N_next' () ⟨rfl, rfl, rfl, trivial⟩ [2, 3] rfl rfl
   ·refine J_exit ?_
    refine N_then_exit ?_
    exact N_break' () ⟨rfl, rfl, rfl, trivial⟩ [0, 1] rfl rfl
  ·refine N_then ?_
   refine J_sr ?_
   refine JA rfl rfl ?_
   refine JL_nt ?_
   refine J_ret ?_
   exact N_ret1 rfl (rv_tmp rfl) (fun w hh => ⟨(), rfl, hh.sel [] rfl⟩)
set_option maxHeartbeats 40000000 in
theorem c_laws_FnProgramTrees (A : Nat → Prop) (w : World) (hA : ∀ k, A k → k < w.heap.size) (v0_ : Value) (p0 : (List (Ik .u8))) (hp0 : Rd A w v0_ p0) (v1_ : Value) (p1 : (List (Ik .u8))) (hp1 : Rd A w v1_ p1) (r : Bool) (hr : F_laws_FnProgramTrees p0 p1 = some r) :
  Con Try.prog 3 [v0_, v1_] A w (fun x_ : Unit => .bool r) (fun x_ => []) := by
 refine Con_of (v := fun (r : Bool) (x_ : Unit) => .bool r) (fs := fun r x_ => []) Try.func3 rfl Try.ntmps3 rfl (((SH.start hA).start_rd rfl hp0).start_rd rfl hp1) rfl ?_ hr
 unfold F_laws_FnProgramTrees
 refine J_sr ?_
 refine JA rfl rfl ?_
 refine JL_nt ?_
 refine J_seq ?_
 refine J_sr ?_
 refine JM rfl rfl ?_
 refine JM rfl rfl ?_
 refine JL_bnd fun r1 hr2 => ?_
 refine JL_call wn rfl Try.call4 rfl (Ca_of0 fun w hh => c_laws_r8Long _ w (fun _ hk => hk.elim) _ _ (hh.rd0 1 rfl) _ _ (hh.rd0 0 rfl) _ hr2) (fun _ => ?_)
 refine JL_nt ?_
 refine J_if rfl (fun h3 => ?_) (fun h3 => ?_)
 ·refine J_sr ?_
  refine JA rfl rfl ?_
  refine JL_nt ?_
  refine J_ret ?_
  refine N_then_ret ?_
  exact N_ret1 rfl (rv_tmp rfl) (fun w hh => ⟨(), rfl, hh.sel [] rfl⟩)
 ·refine J_skip ?_
  refine N_then ?_
  refine J_sr ?_
  refine JM rfl rfl ?_
  refine JL_bnd fun r4 hr5 => ?_
  refine JL_call wn rfl Try.call5 rfl (Ca_self (fun _ => rfl) fun w hh => c_spec_R8While _ w (fun _ hk => hk.elim) _ _ (hh.rd0 1 rfl) _ hr5) (fun x6 => ?_)
  obtain ⟨x6_0, x6_1, x6_2⟩ := x6
  refine JM rfl rfl ?_
  refine JL_q wn rfl (ex_extract rfl rfl) ?_
  refine JL_q wn rfl (ex_extract rfl rfl) ?_
  refine JA rfl rfl ?_
  refine JA rfl rfl ?_
  refine JL_nt ?_
  refine J_sr ?_
  refine JM rfl rfl ?_
  refine JL_bnd fun r7 hr8 => ?_
  refine JL_call wn rfl Try.call6 rfl (Ca_self (fun _ => rfl) fun w hh => c_impl_CodeWhile _ w (fun _ hk => hk.elim) _ _ (hh.od0 0 rfl) _ hr8) (fun x9 => ?_)
  refine JM rfl rfl ?_
  refine JL_q wn rfl (ex_extract rfl rfl) ?_
  refine JL_q wn rfl (ex_extract rfl rfl) ?_
  refine JA rfl rfl ?_
  refine JA rfl rfl ?_
  refine JL_nt ?_
  refine J_sr ?_
  refine JM rfl rfl ?_
  refine JL_bnd fun r10 hr11 => ?_
  refine JL_ctx (fun w hh => hh.tokf 0 rfl rfl) ?_
  refine JL_call wn rfl Try.call7 rfl (Ca_of (fun _ => rfl) fun w hh => c_impl_DecodeWhile _ w hh.av' _ _ (hh.rd 1 rfl) _ hr11) (fun x12 => ?_)
  refine JM rfl rfl ?_
  refine JL_q wn rfl (ex_extract rfl rfl) ?_
  refine JL_q wn rfl (ex_extract rfl rfl) ?_
  refine JA rfl rfl ?_
  refine JA rfl rfl ?_
  refine JL_nt ?_
  refine J_sr ?_
  refine JM rfl rfl ?_
  refine JM rfl rfl ?_
  refine JL_bnd fun r13 hr14 => ?_
  refine JL_call wn rfl Try.call8 rfl (Ca_self (fun _ => rfl) fun w hh => c_impl_UniversalInput _ w (fun _ hk => hk.elim) _ _ (hh.od0 3 rfl) _ _ (hh.ow0 4 rfl) _ hr14) (fun x15 => ?_)
  refine JM rfl rfl ?_
  refine JL_q wn rfl (ex_extract rfl rfl) ?_
  refine JL_q wn rfl (ex_extract rfl rfl) ?_
  refine JA rfl rfl ?_
  refine JA rfl rfl ?_
  refine JL_nt ?_
  refine J_sr ?_
  refine JM rfl rfl ?_
  refine JL_bnd fun r16 hr17 => ?_
  refine JL_call wn rfl Try.call9 rfl (Ca_self (fun _ => rfl) fun w hh => c_impl_HeadOf _ w (fun _ hk => hk.elim) _ _ (hh.ow0 0 rfl) _ hr17) (fun x18 => ?_)
  refine JM rfl rfl ?_
  refine JL_q wn rfl (ex_extract rfl rfl) ?_
  refine JL_q wn rfl (ex_extract rfl rfl) ?_
  refine JA rfl rfl ?_
  refine JA rfl rfl ?_
  refine JL_nt ?_
  refine J_sr ?_
  refine JM rfl rfl ?_
  refine JL_q wn rfl (ex_eql rfl rfl) ?_
  refine JM rfl rfl ?_
  refine JL_cond (fun h19 => ?_) (fun h19 => ?_)
  ·refine JL_q (wants_some rfl rfl rfl h19) rfl (ex_move rfl) ?_
   refine JL_q (wants_some rfl rfl rfl h19) rfl (ex_eql rfl rfl) ?_
   refine JL_q wn rfl (ex_pick_true rfl h19 rfl) ?_
   refine JM rfl rfl ?_
   refine JL_cond (fun h20 => ?_) (fun h20 => ?_)
   ·refine JL_q (wants_some rfl rfl rfl h20) rfl (ex_move rfl) ?_
    refine JL_q (wants_some rfl rfl rfl h20) rfl (ex_eql rfl rfl) ?_
    refine JL_q wn rfl (ex_pick_true rfl h20 rfl) ?_
    refine JM rfl rfl ?_
    refine JL_cond (fun h21 => ?_) (fun h21 => ?_)
    ·refine JL_q (wants_some rfl rfl rfl h21) rfl (ex_move rfl) ?_
     refine JL_q (wants_some rfl rfl rfl h21) rfl (ex_eql rfl rfl) ?_
     refine JL_q wn rfl (ex_pick_true rfl h21 rfl) ?_
     refine JM rfl rfl ?_
     refine JL_cond (fun h22 => ?_) (fun h22 => ?_)
     ·refine JL_q (wants_some rfl rfl rfl h22) rfl (ex_move rfl) ?_
      refine JL_bnd fun r23 hr24 => ?_
      refine JL_call (wants_some rfl rfl rfl h22) rfl Try.call10 rfl (Ca_of0 fun w hh => c_impl_IsProgramTree _ w (fun _ hk => hk.elim) _ _ (hh.rd0 4 rfl) _ hr24) (fun _ => ?_)
      refine JL_q wn rfl (ex_pick_true rfl h22 rfl) ?_
      refine JM rfl rfl ?_
      refine JL_cond (fun h25 => ?_) (fun h25 => ?_)
      ·refine JL_q (wants_some rfl rfl rfl h25) rfl (ex_move rfl) ?_
       refine JL_q (wants_some rfl rfl rfl h25) rfl (ex_move rfl) ?_
       refine JL_bnd fun r26 hr27 => ?_
       refine JL_call (wants_some rfl rfl rfl h25) rfl Try.call11 rfl (Ca_of0 fun w hh => c_impl_SameWhile _ w (fun _ hk => hk.elim) _ _ (hh.ow0 2 rfl) _ _ (hh.od0 5 rfl) _ hr27) (fun _ => ?_)
       refine JL_q wn rfl (ex_pick_true rfl h25 rfl) ?_
       refine JM rfl rfl ?_
       refine JL_cond (fun h28 => ?_) (fun h28 => ?_)
       ·refine JL_q (wants_some rfl rfl rfl h28) rfl (ex_move rfl) ?_
        refine JL_q (wants_some rfl rfl rfl h28) rfl (ex_move rfl) ?_
        refine JL_bnd fun r29 hr30 => ?_
        refine JL_call (wants_some rfl rfl rfl h28) rfl Try.call12 rfl (Ca_of0 fun w hh => c_laws_r8Tree _ w (fun _ hk => hk.elim) _ _ (hh.ow0 0 rfl) _ _ (hh.rd0 4 rfl) _ hr30) (fun _ => ?_)
        refine JL_q wn rfl (ex_pick_true rfl h28 rfl) ?_
        refine JA rfl rfl ?_
        refine JL_nt ?_
        refine J_ret ?_
        exact N_ret1 rfl (rv_tmp rfl) (fun w hh => ⟨(), rfl, hh.sel [] rfl⟩)
       ·refine JL_passed rfl rfl rfl h28 ?_
        refine JL_passed rfl rfl rfl h28 ?_
        refine JL_passed rfl rfl rfl h28 ?_
        refine JL_q wn rfl (ex_pick_false rfl h28 rfl) ?_
        refine JA rfl rfl ?_
        refine JL_nt ?_
        refine J_ret ?_
        exact N_ret1 rfl (rv_tmp rfl) (fun w hh => ⟨(), rfl, hh.sel [] rfl⟩)
      ·refine JL_passed rfl rfl rfl h25 ?_
       refine JL_passed rfl rfl rfl h25 ?_
       refine JL_passed rfl rfl rfl h25 ?_
       refine JL_q wn rfl (ex_pick_false rfl h25 rfl) ?_
       refine JM rfl rfl ?_
       refine JL_passed rfl rfl rfl rfl ?_
       refine JL_passed rfl rfl rfl rfl ?_
       refine JL_passed rfl rfl rfl rfl ?_
       refine JL_q wn rfl (ex_pick_false rfl rfl rfl) ?_
       refine JA rfl rfl ?_
       refine JL_nt ?_
       refine J_ret ?_
       exact N_ret1 rfl (rv_tmp rfl) (fun w hh => ⟨(), rfl, hh.sel [] rfl⟩)
     ·refine JL_passed rfl rfl rfl h22 ?_
      refine JL_passed rfl rfl rfl h22 ?_
      refine JL_q wn rfl (ex_pick_false rfl h22 rfl) ?_
      refine JM rfl rfl ?_
      refine JL_passed rfl rfl rfl rfl ?_
      refine JL_passed rfl rfl rfl rfl ?_
      refine JL_passed rfl rfl rfl rfl ?_
      refine JL_q wn rfl (ex_pick_false rfl rfl rfl) ?_
      refine JM rfl rfl ?_
      refine JL_passed rfl rfl rfl rfl ?_
      refine JL_passed rfl rfl rfl rfl ?_
      refine JL_passed rfl rfl rfl rfl ?_
      refine JL_q wn rfl (ex_pick_false rfl rfl rfl) ?_
      refine JA rfl rfl ?_
      refine JL_nt ?_
      refine J_ret ?_
      exact N_ret1 rfl (rv_tmp rfl) (fun w hh => ⟨(), rfl, hh.sel [] rfl⟩)
    ·refine JL_passed rfl rfl rfl h21 ?_
     refine JL_passed rfl rfl rfl h21 ?_
     refine JL_q wn rfl (ex_pick_false rfl h21 rfl) ?_
     refine JM rfl rfl ?_
     refine JL_passed rfl rfl rfl rfl ?_
     refine JL_passed rfl rfl rfl rfl ?_
     refine JL_q wn rfl (ex_pick_false rfl rfl rfl) ?_
     refine JM rfl rfl ?_
     refine JL_passed rfl rfl rfl rfl ?_
     refine JL_passed rfl rfl rfl rfl ?_
     refine JL_passed rfl rfl rfl rfl ?_
     refine JL_q wn rfl (ex_pick_false rfl rfl rfl) ?_
     refine JM rfl rfl ?_
     refine JL_passed rfl rfl rfl rfl ?_
     refine JL_passed rfl rfl rfl rfl ?_
     refine JL_passed rfl rfl rfl rfl ?_
     refine JL_q wn rfl (ex_pick_false rfl rfl rfl) ?_
     refine JA rfl rfl ?_
     refine JL_nt ?_
     refine J_ret ?_
     exact N_ret1 rfl (rv_tmp rfl) (fun w hh => ⟨(), rfl, hh.sel [] rfl⟩)
   ·refine JL_passed rfl rfl rfl h20 ?_
    refine JL_passed rfl rfl rfl h20 ?_
    refine JL_q wn rfl (ex_pick_false rfl h20 rfl) ?_
    refine JM rfl rfl ?_
    refine JL_passed rfl rfl rfl rfl ?_
    refine JL_passed rfl rfl rfl rfl ?_
    refine JL_q wn rfl (ex_pick_false rfl rfl rfl) ?_
    refine JM rfl rfl ?_
    refine JL_passed rfl rfl rfl rfl ?_
    refine JL_passed rfl rfl rfl rfl ?_
    refine JL_q wn rfl (ex_pick_false rfl rfl rfl) ?_
    refine JM rfl rfl ?_
    refine JL_passed rfl rfl rfl rfl ?_
    refine JL_passed rfl rfl rfl rfl ?_
    refine JL_passed rfl rfl rfl rfl ?_
    refine JL_q wn rfl (ex_pick_false rfl rfl rfl) ?_
    refine JM rfl rfl ?_
    refine JL_passed rfl rfl rfl rfl ?_
    refine JL_passed rfl rfl rfl rfl ?_
    refine JL_passed rfl rfl rfl rfl ?_
    refine JL_q wn rfl (ex_pick_false rfl rfl rfl) ?_
    refine JA rfl rfl ?_
    refine JL_nt ?_
    refine J_ret ?_
    exact N_ret1 rfl (rv_tmp rfl) (fun w hh => ⟨(), rfl, hh.sel [] rfl⟩)
  ·refine JL_passed rfl rfl rfl h19 ?_
   refine JL_passed rfl rfl rfl h19 ?_
   refine JL_q wn rfl (ex_pick_false rfl h19 rfl) ?_
   refine JM rfl rfl ?_
   refine JL_passed rfl rfl rfl rfl ?_
   refine JL_passed rfl rfl rfl rfl ?_
   refine JL_q wn rfl (ex_pick_false rfl rfl rfl) ?_
   refine JM rfl rfl ?_
   refine JL_passed rfl rfl rfl rfl ?_
   refine JL_passed rfl rfl rfl rfl ?_
   refine JL_q wn rfl (ex_pick_false rfl rfl rfl) ?_
   refine JM rfl rfl ?_
   refine JL_passed rfl rfl rfl rfl ?_
   refine JL_passed rfl rfl rfl rfl ?_
   refine JL_q wn rfl (ex_pick_false rfl rfl rfl) ?_
   refine JM rfl rfl ?_
   refine JL_passed rfl rfl rfl rfl ?_
   refine JL_passed rfl rfl rfl rfl ?_
   refine JL_passed rfl rfl rfl rfl ?_
   refine JL_q wn rfl (ex_pick_false rfl rfl rfl) ?_
   refine JM rfl rfl ?_
   refine JL_passed rfl rfl rfl rfl ?_
   refine JL_passed rfl rfl rfl rfl ?_
   refine JL_passed rfl rfl rfl rfl ?_
   refine JL_q wn rfl (ex_pick_false rfl rfl rfl) ?_
   refine JA rfl rfl ?_
   refine JL_nt ?_
   refine J_ret ?_
   exact N_ret1 rfl (rv_tmp rfl) (fun w hh => ⟨(), rfl, hh.sel [] rfl⟩)
end Go.Proofs.Ytlikagofgciflaa
