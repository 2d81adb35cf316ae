/-
  Each function of the program computes what its plain function says: printed by program. No condition.
-/
import Derived.Test.YtlepdmenejbleaaGreatFn
import Derived.Test.YtlepdmenejbleaaGreatInf
import Derived.Test.YtlepdmenejbleaaGreatCon1
import Derived.Test.YtlepdmenejbleaaGreatCon2
import Derived.Test.YtlepdmenejbleaaGreatCon3
import Derived.Test.YtlepdmenejbleaaGreatCon4
namespace Go.Proofs.YtlepdmenejbleaaGreat
open Go Go.Tc Go.Fn
set_option linter.unusedVariables false
set_option maxHeartbeats 40000000 in
theorem c_impl_IsWord (A : Nat → Prop) (w : World) (hA : ∀ k, A k → k < w.heap.size) (v0_ : Value) (p0 : (List Int)) (hp0 : Rd A w v0_ p0) (r : Bool) (hr : F_impl_IsWord p0 = some r) :
  Con Tryz.prog 40 [v0_] A w (fun x_ : Unit => .bool r) (fun x_ => []) := by
 refine Con_of (v := fun (r : Bool) (x_ : Unit) => .bool r) (fs := fun r x_ => []) Tryz.func40 rfl Tryz.ntmps40 rfl ((SH.start hA).start_rd rfl hp0) rfl ?_ hr
 unfold F_impl_IsWord
 refine J_sr ?_
 refine JA rfl rfl ?_
 refine JL_nt ?_
 refine J_sr ?_
 refine JM rfl rfl ?_
 refine JL_q wn rfl (ex_len_rd 0 Tryz.underlying27 rfl rfl) ?_
 refine JL_q wn rfl (ex_leq rfl rfl) ?_
 refine JM rfl rfl ?_
 refine JL_cond (fun h1 => ?_) (fun h1 => ?_)
 ·refine JL_q (wants_some rfl rfl rfl h1) rfl (ex_move rfl) ?_
  refine JL_bnd fun r2 hr3 => ?_
  refine JL_call (wants_some rfl rfl rfl h1) rfl Tryz.call90 rfl (Ca_of0 fun w hh => c_impl_isLetters _ w (fun _ hk => hk.elim) _ _ (hh.rd0 0 rfl) _ hr3) (fun _ => ?_)
  refine JL_q wn rfl (ex_pick_true rfl h1 rfl) ?_
  refine JA rfl rfl ?_
  refine JL_nt ?_
  refine J_ret ?_
  exact N_ret1 rfl (rv_tmp rfl) (fun w hh => ⟨(), rfl, hh.sel [] rfl⟩)
 ·refine JL_passed rfl rfl rfl h1 ?_
  refine JL_passed rfl rfl rfl h1 ?_
  refine JL_q wn rfl (ex_pick_false rfl h1 rfl) ?_
  refine JA rfl rfl ?_
  refine JL_nt ?_
  refine J_ret ?_
  exact N_ret1 rfl (rv_tmp rfl) (fun w hh => ⟨(), rfl, hh.sel [] rfl⟩)
set_option maxHeartbeats 40000000 in
theorem c_impl_areWords_1 (A : Nat → Prop) (w : World) (hA : ∀ k, A k → k < w.heap.size) (v0_ : Value) (p0 : (List Int)) (hp0 : Rd A w v0_ p0) (r : Bool) (hr : F_impl_areWords_1 p0 = some r) :
  Con Tryz.prog 92 [v0_] A w (fun x_ : Unit => .bool r) (fun x_ => []) := by
 refine Con_of (v := fun (r : Bool) (x_ : Unit) => .bool r) (fs := fun r x_ => []) Tryz.func92 rfl Tryz.ntmps92 rfl ((SH.start hA).start_rd rfl hp0) rfl ?_ hr
 unfold F_impl_areWords_1
 refine J_sr ?_
 refine JA rfl rfl ?_
 refine JL_nt ?_
 refine J_sr ?_
 refine JM rfl rfl ?_
 refine JL_bnd fun r1 hr2 => ?_
 refine JL_call wn rfl Tryz.call40 rfl (Ca_of0 fun w hh => c_impl_IsWord _ w (fun _ hk => hk.elim) _ _ (hh.rd0 0 rfl) _ hr2) (fun _ => ?_)
 refine JL_q wn rfl (ex_not rfl) ?_
 refine JA rfl rfl ?_
 refine JL_nt ?_
 refine J_ret ?_
 exact N_ret1 rfl (rv_tmp rfl) (fun w hh => ⟨(), rfl, hh.sel [] rfl⟩)
set_option maxHeartbeats 40000000 in
theorem c_impl_areWords (A : Nat → Prop) (w : World) (hA : ∀ k, A k → k < w.heap.size) (v0_ : Value) (p0 : (List (List Int))) (hp0 : Rd A w v0_ p0) (r : Bool) (hr : F_impl_areWords p0 = some r) :
  Con Tryz.prog 43 [v0_] A w (fun x_ : Unit => .bool r) (fun x_ => []) := by
 refine Con_of (v := fun (r : Bool) (x_ : Unit) => .bool r) (fs := fun r x_ => []) Tryz.func43 rfl Tryz.ntmps43 rfl ((SH.start hA).start_rd rfl hp0) rfl ?_ hr
 unfold F_impl_areWords
 refine J_sr ?_
 refine JA rfl rfl ?_
 refine JL_nt ?_
 refine J_sr ?_
 refine JM rfl rfl ?_
 refine JL_bnd fun r1 hr2 => ?_
 refine JL_call wn rfl Tryz.call91 rfl (Ca_of0 fun w hh => c_slices_ContainsFunc_SSint64_Sint64 _ w (fun _ hk => hk.elim) _ _ (hh.rd0 0 rfl) _ _ (Clo.mk (caps := []) Tryz.call92 (fun w_ hb_ v_ x_ r_ hrd_ hr_ => c_impl_areWords_1 nowhere w_ (fun _ hk => hk.elim) v_ x_ hrd_  _ hr_)) _ hr2) (fun _ => ?_)
 refine JL_q wn rfl (ex_not rfl) ?_
 refine JA rfl rfl ?_
 refine JL_nt ?_
 refine J_ret ?_
 exact N_ret1 rfl (rv_tmp rfl) (fun w hh => ⟨(), rfl, hh.sel [] rfl⟩)
set_option maxHeartbeats 40000000 in
theorem c_impl_ValidRewrites_1 (A : Nat → Prop) (w : World) (hA : ∀ k, A k → k < w.heap.size) (v0_ : Value) (p0 : GRewrite) (hp0 : Rd A w v0_ p0) (r : Bool) (hr : F_impl_ValidRewrites_1 p0 = some r) :
  Con Tryz.prog 89 [v0_] A w (fun x_ : Unit => .bool r) (fun x_ => []) := by
 obtain ⟨v0_0, v0_1, rfl, hp0_0, hp0_1⟩ := GRewrite.open hp0
 refine Con_of (v := fun (r : Bool) (x_ : Unit) => .bool r) (fs := fun r x_ => []) Tryz.func89 rfl Tryz.ntmps89 rfl (((SH.start hA).start_rd rfl hp0_0).start_rd rfl hp0_1) rfl ?_ hr
 unfold F_impl_ValidRewrites_1
 refine J_sr ?_
 refine JL_st wn rfl (st_box' rfl (fun w hh => (cv_aggs ⟨(hh.cv 1 rfl), (hh.cv 0 rfl), trivial⟩))) (fun b1 => ?_)
 refine JA rfl rfl ?_
 refine JL_nt ?_
 refine J_sr ?_
 refine JL_q wn rfl (ex_fieldAddr fi_88_0 rfl rfl) ?_
 refine JL_q wn rfl (ex_load_bx 0 ti_27 rfl rfl rfl) ?_
 refine JL_q wn rfl (ex_fieldAddr fi_88_1 rfl rfl) ?_
 refine JL_q wn rfl (ex_load_bx 0 ti_27 rfl rfl rfl) ?_
 refine JL_st wn rfl (st_buildSlice (vs := [v0_0, v0_1]) ([p0.From, p0.To] : List (List Int)) Tryz.underlying39 ti_27 zi_27 rfl rfl rfl (fun w hh => ⟨(hh.rd 2 rfl), (hh.rd 1 rfl), trivial⟩)) (fun b2 => ?_)
 refine JL_bnd fun r3 hr4 => ?_
 refine JL_call wn rfl Tryz.call43 rfl (Ca_of0 fun w hh => c_impl_areWords _ w (fun _ hk => hk.elim) _ _ (hh.ow0 0 rfl) _ hr4) (fun _ => ?_)
 refine JL_q wn rfl (ex_not rfl) ?_
 refine JM rfl rfl ?_
 refine JL_cond (fun h5 => ?_) (fun h5 => ?_)
 ·refine JL_passed rfl rfl rfl h5 ?_
  refine JL_passed rfl rfl rfl h5 ?_
  refine JL_passed rfl rfl rfl h5 ?_
  refine JL_passed rfl rfl rfl h5 ?_
  refine JL_q wn rfl (ex_pick_true rfl h5 rfl) ?_
  refine JA rfl rfl ?_
  refine JL_nt ?_
  refine J_ret ?_
  exact N_ret1 rfl (rv_tmp rfl) (fun w hh => ⟨(), rfl, hh.sel [] rfl⟩)
 ·refine JL_q (wants_some rfl rfl rfl h5) rfl (ex_fieldAddr fi_88_0 rfl rfl) ?_
  refine JL_q (wants_some rfl rfl rfl h5) rfl (ex_load_bx 1 ti_27 rfl rfl rfl) ?_
  refine JL_q (wants_some rfl rfl rfl h5) rfl (ex_len_rd 3 Tryz.underlying27 rfl rfl) ?_
  refine JL_q (wants_some rfl rfl rfl h5) rfl (ex_eql rfl rfl) ?_
  refine JL_q wn rfl (ex_pick_false rfl h5 rfl) ?_
  refine JA rfl rfl ?_
  refine JL_nt ?_
  refine J_ret ?_
  exact N_ret1 rfl (rv_tmp rfl) (fun w hh => ⟨(), rfl, hh.sel [] rfl⟩)
set_option maxHeartbeats 40000000 in
theorem c_impl_ValidRewrites (A : Nat → Prop) (w : World) (hA : ∀ k, A k → k < w.heap.size) (v0_ : Value) (p0 : (List GRewrite)) (hp0 : Rd A w v0_ p0) (r : Bool) (hr : F_impl_ValidRewrites p0 = some r) :
  Con Tryz.prog 39 [v0_] A w (fun x_ : Unit => .bool r) (fun x_ => []) := by
 refine Con_of (v := fun (r : Bool) (x_ : Unit) => .bool r) (fs := fun r x_ => []) Tryz.func39 rfl Tryz.ntmps39 rfl ((SH.start hA).start_rd rfl hp0) rfl ?_ hr
 unfold F_impl_ValidRewrites
 refine J_sr ?_
 refine JA rfl rfl ?_
 refine JL_nt ?_
 refine J_sr ?_
 refine JM rfl rfl ?_
 refine JL_bnd fun r1 hr2 => ?_
 refine JL_call wn rfl Tryz.call87 rfl (Ca_of0 fun w hh => c_impl_size_impl_Rewrite _ w (fun _ hk => hk.elim) _ _ (hh.rd0 0 rfl) _ hr2) (fun _ => ?_)
 refine JL_bnd fun r3 hr4 => ?_
 refine JL_call wn rfl Tryz.call64 rfl (Ca_of0 fun w hh => c_impl_within _ w (fun _ hk => hk.elim) _ _ _ _ hr4) (fun _ => ?_)
 refine JM rfl rfl ?_
 refine JL_cond (fun h5 => ?_) (fun h5 => ?_)
 ·refine JL_q (wants_some rfl rfl rfl h5) rfl (ex_move rfl) ?_
  refine JL_bnd fun r6 hr7 => ?_
  refine JL_call (wants_some rfl rfl rfl h5) rfl Tryz.call88 rfl (Ca_of0 fun w hh => c_slices_ContainsFunc_Simpl_Rewrite_impl_Rewrite _ w (fun _ hk => hk.elim) _ _ (hh.rd0 0 rfl) _ _ (Clo.mk (caps := []) Tryz.call89 (fun w_ hb_ v_ x_ r_ hrd_ hr_ => c_impl_ValidRewrites_1 nowhere w_ (fun _ hk => hk.elim) v_ x_ hrd_  _ hr_)) _ hr7) (fun _ => ?_)
  refine JL_q (wants_some rfl rfl rfl h5) rfl (ex_not rfl) ?_
  refine JL_q wn rfl (ex_pick_true rfl h5 rfl) ?_
  refine JA rfl rfl ?_
  refine JL_nt ?_
  refine J_ret ?_
  exact N_ret1 rfl (rv_tmp rfl) (fun w hh => ⟨(), rfl, hh.sel [] rfl⟩)
 ·refine JL_passed rfl rfl rfl h5 ?_
  refine JL_passed rfl rfl rfl h5 ?_
  refine JL_passed rfl rfl rfl h5 ?_
  refine JL_q wn rfl (ex_pick_false rfl h5 rfl) ?_
  refine JA rfl rfl ?_
  refine JL_nt ?_
  refine J_ret ?_
  exact N_ret1 rfl (rv_tmp rfl) (fun w hh => ⟨(), rfl, hh.sel [] rfl⟩)
set_option maxHeartbeats 40000000 in
theorem c_impl_applyRewrite (A : Nat → Prop) (w : World) (hA : ∀ k, A k → k < w.heap.size) (v0_ : Value) (p0 : (List GRewrite)) (hp0 : Rd A w v0_ p0) (v1_ : Value) (p1 : (List Int)) (hp1 : Rd A w v1_ p1) (p2 : Int) (p3 : Int) (r : (List Int) × Int) (hr : F_impl_applyRewrite p0 p1 p2 p3 = some r) :
  Con Tryz.prog 47 [v0_, v1_, .int .i64 p2, .int .i64 p3] A w (fun x_ : Value × List Nat => .tuple #[x_.1, .int .i64 r.2]) (fun x_ => [.tkn x_.1 r.1 x_.2]) := by
 refine Con_of (v := fun (r : (List Int) × Int) (x_ : Value × List Nat) => .tuple #[x_.1, .int .i64 r.2]) (fs := fun r x_ => [.tkn x_.1 r.1 x_.2]) Tryz.func47 rfl Tryz.ntmps47 rfl (((SH.start hA).start_rd rfl hp0).start_rd rfl hp1) rfl ?_ hr
 unfold F_impl_applyRewrite
 refine J_sr ?_
 refine JA rfl rfl ?_
 refine JA rfl rfl ?_
 refine JL_nt ?_
 refine J_seq ?_
 refine J_cut' (S' := Unit) (G' := Unit) (fun _ _ => [(0, v0_), (1, v1_), (2, .int .i64 p2), (3, .int .i64 p3)]) (fun _ _ => [.rd v0_ p0, .rd v1_ p1]) ?_ (fun s1 g2 => ?_)
 ·refine J_sr ?_
  refine JM rfl rfl ?_
  refine JM rfl rfl ?_
  refine JL_bnd fun r3 hr4 => ?_
  refine JL_call wn rfl Tryz.call87 rfl (Ca_of0 fun w hh => c_impl_size_impl_Rewrite _ w (fun _ hk => hk.elim) _ _ (hh.rd0 1 rfl) _ hr4) (fun _ => ?_)
  refine JL_q wn rfl (ex_sub rfl rfl) ?_
  refine JL_bnd fun r5 hr6 => ?_
  refine JL_call wn rfl Tryz.call64 rfl (Ca_of0 fun w hh => c_impl_within _ w (fun _ hk => hk.elim) _ _ _ _ hr6) (fun _ => ?_)
  refine JL_q wn rfl (ex_not rfl) ?_
  refine JM rfl rfl ?_
  refine JL_cond (fun h7 => ?_) (fun h7 => ?_)
  ·refine JL_passed rfl rfl rfl h7 ?_
   refine JL_passed rfl rfl rfl h7 ?_
   refine JL_passed rfl rfl rfl h7 ?_
   refine JL_passed rfl rfl rfl h7 ?_
   refine JL_passed rfl rfl rfl h7 ?_
   refine JL_q wn rfl (ex_pick_true rfl h7 rfl) ?_
   refine JL_nt ?_
   refine J_if_true rfl rfl ?_
   refine J_sr ?_
   refine JA rfl rfl ?_
   refine JA rfl rfl ?_
   refine JL_nt ?_
   refine J_ret ?_
   refine N_mid_ret ?_
   refine N_then_ret ?_
   refine N_ctx (fun w hh => SH.ow_nil (α := Int) 2 hh) ?_
   refine N_ctx (fun w hh => hh.tokf 0 rfl rfl) ?_
   exact N_ret2 rfl (rv_tmp rfl) (rv_tmp rfl) (fun w hh => ⟨((.slice none 0 0 : Value), ((.slice none 0 0 : Value).ownBlock.toList ++ [])), rfl, hh.sel [0] rfl⟩)
  ·refine JL_q (wants_some rfl rfl rfl h7) rfl (ex_move rfl) ?_
   refine JL_q (wants_some rfl rfl rfl h7) rfl (ex_move rfl) ?_
   refine JL_bnd fun r8 hr9 => ?_
   refine JL_call (wants_some rfl rfl rfl h7) rfl Tryz.call94 rfl (Ca_of0 fun w hh => c_impl_size_int64 _ w (fun _ hk => hk.elim) _ _ (hh.rd0 0 rfl) _ hr9) (fun _ => ?_)
   refine JL_bnd fun r10 hr11 => ?_
   refine JL_call (wants_some rfl rfl rfl h7) rfl Tryz.call64 rfl (Ca_of0 fun w hh => c_impl_within _ w (fun _ hk => hk.elim) _ _ _ _ hr11) (fun _ => ?_)
   refine JL_q (wants_some rfl rfl rfl h7) rfl (ex_not rfl) ?_
   refine JL_q wn rfl (ex_pick_false rfl h7 rfl) ?_
   refine JL_nt ?_
   refine J_if rfl (fun h12 => ?_) (fun h12 => ?_)
   ·refine J_sr ?_
    refine JA rfl rfl ?_
    refine JA rfl rfl ?_
    refine JL_nt ?_
    refine J_ret ?_
    refine N_mid_ret ?_
    refine N_then_ret ?_
    refine N_ctx (fun w hh => SH.ow_nil (α := Int) 2 hh) ?_
    refine N_ctx (fun w hh => hh.tokf 0 rfl rfl) ?_
    exact N_ret2 rfl (rv_tmp rfl) (rv_tmp rfl) (fun w hh => ⟨((.slice none 0 0 : Value), ((.slice none 0 0 : Value).ownBlock.toList ++ [])), rfl, hh.sel [0] rfl⟩)
   ·refine J_skip ?_
    exact N_meet' () ⟨rfl, rfl, rfl, rfl, trivial⟩ [1, 0] rfl rfl
 ·refine N_then ?_
  refine J_sr ?_
  refine JM rfl rfl ?_
  refine JM rfl rfl ?_
  refine JL_bnd fun y13 hy14 => ?_
  refine JL_st wn rfl (st_index 0 Tryz.underlying34 ti_88 rfl rfl rfl hy14) (fun q15 => ?_)
  refine JL_st wn rfl (st_load_pt_o 0 (GRewrite.opens _) ti_88 rfl rfl) (fun v16 => ?_)
  refine JL_st wn rfl (st_alloc zi_88 rfl) (fun b17 => ?_)
  refine JL_sk wn (sk_store_bx' 0 ti_88 rfl rfl (fun w hh => (cv_aggs ⟨(hh.cv 1 rfl), (hh.cv 2 rfl), trivial⟩)) rfl rfl rfl rfl) ?_
  refine JL_nt ?_
  refine J_seq ?_
  refine J_seq ?_
  refine J_draw [] (by kernel_rfl) ?_
  refine JP_take (i := 0) [0, 1, 2, 3, 4, 5] [] rfl (by kernel_rfl) (by kernel_rfl) (by kernel_rfl) rfl rfl wn rfl (ex_move rfl) ?_
  refine JP_take (i := 1) [0, 1, 2, 3, 4, 5] [] rfl (by kernel_rfl) (by kernel_rfl) (by kernel_rfl) rfl rfl wn rfl (ex_move rfl) ?_
  refine JP_bnd fun z18 hz19 => ?_
  refine JP_sq (i := 2) [] rfl (by kernel_rfl) (by kernel_rfl) (by kernel_rfl) rfl wn rfl (sq_slice 5 Tryz.underlying27 ti_2 rfl rfl rfl rfl hz19) (fun v20 => ?_)
  refine JP_take (i := 3) [0, 1, 2, 3, 4, 5, 6] [] rfl (by kernel_rfl) (by kernel_rfl) (by kernel_rfl) rfl rfl wn rfl (ex_fieldAddr fi_88_0 rfl rfl) ?_
  refine JP_take (i := 4) [0, 1, 2, 3, 4, 5, 6] [] rfl (by kernel_rfl) (by kernel_rfl) (by kernel_rfl) rfl rfl wn rfl (ex_load_bx 1 ti_27 rfl rfl rfl) ?_
  refine JP_go [0, 1, 2, 3, 4, 5, 6] [] rfl rfl rfl (fun w22 h1_23 hp21 => ?_)
  refine JD_bnd fun r24 hr25 => ?_
  refine JD_one (i := 5) (by kernel_rfl) ?_
  refine JO_call rfl wn rfl Tryz.call85 rfl (Ca_of0 fun w hh => c_impl_begins _ w (fun _ hk => hk.elim) _ _ (hh.rd0 0 rfl) _ _ (hh.rd0 2 rfl) _ hr25) (fun _ => ?_)
  refine JD_take (i := 6) hp21 rfl (by kernel_rfl) (by kernel_rfl) (by kernel_rfl) wn rfl (ex_not rfl) ?_
  refine JD_done (by kernel_rfl) ?_
  refine N_then ?_
  refine J_if rfl (fun h26 => ?_) (fun h26 => ?_)
  ·refine J_sr ?_
   refine JA rfl rfl ?_
   refine JA rfl rfl ?_
   refine JL_nt ?_
   refine J_ret ?_
   refine N_then_ret ?_
   refine N_ctx (fun w hh => SH.ow_nil (α := Int) 2 hh) ?_
   refine N_ctx (fun w hh => hh.tokf 0 rfl rfl) ?_
   exact N_ret2 rfl (rv_tmp rfl) (rv_tmp rfl) (fun w hh => ⟨((.slice none 0 0 : Value), ((.slice none 0 0 : Value).ownBlock.toList ++ [])), rfl, hh.sel [0] rfl⟩)
  ·refine J_skip ?_
   refine N_then ?_
   refine J_sr ?_
   refine JM rfl rfl ?_
   refine JM rfl rfl ?_
   refine JL_q wn rfl (ex_fieldAddr fi_88_0 rfl rfl) ?_
   refine JL_q wn rfl (ex_load_bx 1 ti_27 rfl rfl rfl) ?_
   refine JL_q wn rfl (ex_len_rd 2 Tryz.underlying27 rfl rfl) ?_
   refine JL_q wn rfl (ex_fieldAddr fi_88_1 rfl rfl) ?_
   refine JL_q wn rfl (ex_load_bx 1 ti_27 rfl rfl rfl) ?_
   refine JL_bnd fun r27 hr28 => ?_
   refine JL_call wn rfl Tryz.call86 rfl (Ca_self (fun _ => rfl) fun w hh => c_impl_replaced _ w (fun _ hk => hk.elim) _ _ (hh.rd0 6 rfl) _ _ _ _ (hh.rd0 3 rfl) _ hr28) (fun x29 => ?_)
   refine JL_bnd fun r30 hr31 => ?_
   refine JL_call wn rfl Tryz.call75 rfl (Ca_self (fun _ => rfl) fun w hh => c_impl_fitting _ w (fun _ hk => hk.elim) _ _ (hh.ow0 0 rfl) _ hr31) (fun x32 => ?_)
   refine JL_ctx (fun w hh => hh.tokf 1 rfl rfl) ?_
   refine JL_ctx (fun w hh => hh.sub_rd 2 rfl (hh.pr 1 rfl)) ?_
   refine JL_ctx (fun w hh => hh.sub_tkn 1 rfl (hh.pr 2 rfl)) ?_
   refine JL_q wn rfl (ex_extract rfl rfl) ?_
   refine JL_q wn rfl (ex_extract rfl rfl) ?_
   refine JA rfl rfl ?_
   refine JA rfl rfl ?_
   refine JL_nt ?_
   refine J_ret ?_
   exact N_ret2 rfl (rv_tmp rfl) (rv_tmp rfl) (fun w hh => ⟨(x32, ((x29 : Value).ownBlock.toList ++ [])), rfl, hh.sel [1] rfl⟩)
set_option maxHeartbeats 40000000 in
theorem c_impl_derived (A : Nat → Prop) (w : World) (hA : ∀ k, A k → k < w.heap.size) (v0_ : Value) (p0 : (List GRewrite)) (hp0 : Rd A w v0_ p0) (v1_ : Value) (p1 : (List Int)) (hp1 : Rd A w v1_ p1) (v2_ : Value) (p2 : (List (List Int))) (hp2 : Rd A w v2_ p2) (r : (List Int) × Int) (hr : F_impl_derived p0 p1 p2 = some r) :
  Con Tryz.prog 41 [v0_, v1_, v2_] A w (fun x_ : Value × List Nat => .tuple #[x_.1, .int .i64 r.2]) (fun x_ => [.tkn x_.1 r.1 x_.2]) := by
 refine Con_of (v := fun (r : (List Int) × Int) (x_ : Value × List Nat) => .tuple #[x_.1, .int .i64 r.2]) (fs := fun r x_ => [.tkn x_.1 r.1 x_.2]) Tryz.func41 rfl Tryz.ntmps41 rfl ((((SH.start hA).start_rd rfl hp0).start_rd rfl hp1).start_rd rfl hp2) rfl ?_ hr
 unfold F_impl_derived
 refine J_sr ?_
 refine JA rfl rfl ?_
 refine JA rfl rfl ?_
 refine JL_nt ?_
 refine J_seq ?_
 refine J_sr ?_
 refine JM rfl rfl ?_
 refine JL_q wn rfl (ex_len_rd 0 Tryz.underlying39 rfl rfl) ?_
 refine JL_q wn rfl (ex_gtr rfl rfl) ?_
 refine JL_nt ?_
 refine J_if rfl (fun h1 => ?_) (fun h1 => ?_)
 ·refine J_sr ?_
  refine JA rfl rfl ?_
  refine JA rfl rfl ?_
  refine JL_nt ?_
  refine J_ret ?_
  refine N_then_ret ?_
  refine N_ctx (fun w hh => SH.ow_nil (α := Int) 2 hh) ?_
  refine N_ctx (fun w hh => hh.tokf 0 rfl rfl) ?_
  exact N_ret2 rfl (rv_tmp rfl) (rv_tmp rfl) (fun w hh => ⟨((.slice none 0 0 : Value), ((.slice none 0 0 : Value).ownBlock.toList ++ [])), rfl, hh.sel [0] rfl⟩)
 ·refine J_skip ?_
  refine N_then ?_
  refine J_sr ?_
  refine JM rfl rfl ?_
  refine JL_bnd fun r2 hr3 => ?_
  refine JL_call wn rfl Tryz.call82 rfl (Ca_self (fun _ => rfl) fun w hh => c_slices_Clone_Sint64_int64 _ w (fun _ hk => hk.elim) _ _ (hh.rd0 1 rfl) _ hr3) (fun x4 => ?_)
  refine JA rfl rfl ?_
  refine JL_nt ?_
  refine J_seq ?_
  refine J_sr ?_
  refine JM rfl rfl ?_
  refine JL_q wn rfl (ex_len_rd 1 Tryz.underlying39 rfl rfl) ?_
  refine JM rfl rfl ?_
  refine JL_nt ?_
  refine J_ctx (fun w hh => hh.tokf 0 rfl rfl) ?_
  refine J_loop' (S := (List Int) × Int) (G := Value × List Nat) (F_impl_derived_L1 p0 p2) (fun s5 g6 => [(0, v0_), (8, g6.1), (18, v2_), (19, .int .i64 (p2.length : Int)), (20, .int .i64 s5.2)]) (fun s5 g6 => [.rd v0_ p0, .rd g6.1 s5.1, .tkn g6.1 s5.1 g6.2, .rd v2_ p2]) (r2, 0) (x4, ((x4 : Value).ownBlock.toList ++ [])) ⟨rfl, rfl, rfl, rfl, rfl, trivial⟩ [4, 1, 0, 2] rfl rfl (fun s5 g6 => ?_) (fun s5 g6 => ?_)
  ·obtain ⟨g6_0, g6_1⟩ := g6
   unfold F_impl_derived_L1
   refine J_sr ?_
   refine JL_q wn rfl (ex_lss rfl rfl) ?_
   refine JL_nt ?_
   refine J_seq ?_
   refine J_if rfl (fun h7 => ?_) (fun h7 => ?_)
   ·refine J_skip ?_
    refine N_then ?_
    refine J_seq ?_
    refine J_block ?_
    refine J_sr ?_
    refine JL_bnd fun y8 hy9 => ?_
    refine JL_st wn rfl (st_index 3 Tryz.underlying39 ti_27 rfl rfl rfl hy9) (fun q10 => ?_)
    refine JL_st wn rfl (st_load_pt_o 0 (opens_sl _) ti_27 rfl rfl) (fun v11 => ?_)
    refine JA rfl rfl ?_
    refine JL_nt ?_
    refine J_seq ?_
    refine J_sr ?_
    refine JM rfl rfl ?_
    refine JL_q wn rfl (ex_len_rd 0 Tryz.underlying27 rfl rfl) ?_
    refine JL_q wn rfl (ex_neq rfl rfl) ?_
    refine JL_nt ?_
    refine J_if rfl (fun h12 => ?_) (fun h12 => ?_)
    ·refine J_sr ?_
     refine JA rfl rfl ?_
     refine JA rfl rfl ?_
     refine JL_nt ?_
     refine J_ret ?_
     refine N_then_ret ?_
     refine N_block_ret ?_
     refine N_then_ret ?_
     refine N_round_ret ?_
     refine N_then_ret ?_
     refine N_ctx (fun w hh => SH.ow_nil (α := Int) 2 hh) ?_
     refine N_ctx (fun w hh => hh.tokf 0 rfl rfl) ?_
     exact N_ret2 rfl (rv_tmp rfl) (rv_tmp rfl) (fun w hh => ⟨((.slice none 0 0 : Value), ((.slice none 0 0 : Value).ownBlock.toList ++ [])), rfl, hh.sel [0] rfl⟩)
    ·refine J_skip ?_
     refine N_then ?_
     refine J_seq ?_
     refine J_draw [] (by kernel_rfl) ?_
     refine JP_take (i := 0) [0, 1, 2, 3, 4, 5] [] rfl (by kernel_rfl) (by kernel_rfl) (by kernel_rfl) rfl rfl wn rfl (ex_move rfl) ?_
     refine JP_take (i := 1) [0, 1, 2, 3, 4, 5] [] rfl (by kernel_rfl) (by kernel_rfl) (by kernel_rfl) rfl rfl wn rfl (ex_move rfl) ?_
     refine JP_take (i := 2) [0, 1, 2, 3, 4, 5] [] rfl (by kernel_rfl) (by kernel_rfl) (by kernel_rfl) rfl rfl wn rfl (ex_move rfl) ?_
     refine JP_bnd fun y13 hy14 => ?_
     refine JP_sq (i := 3) [] rfl (by kernel_rfl) (by kernel_rfl) (by kernel_rfl) rfl wn rfl (sq_index 0 Tryz.underlying27 ti_2 rfl rfl rfl hy14) (fun q15 => ?_)
     refine JP_sq (i := 4) [] rfl (by kernel_rfl) (by kernel_rfl) (by kernel_rfl) rfl wn rfl (sq_load_pt_o 0 (opens_int _) ti_2 rfl rfl) (fun _ => ?_)
     refine JP_take (i := 5) [0, 1, 2, 3, 4, 5, 6] [] rfl (by kernel_rfl) (by kernel_rfl) (by kernel_rfl) rfl rfl wn rfl (ex_move rfl) ?_
     refine JP_bnd fun y17 hy18 => ?_
     refine JP_sq (i := 6) [] rfl (by kernel_rfl) (by kernel_rfl) (by kernel_rfl) rfl wn rfl (sq_index 1 Tryz.underlying27 ti_2 rfl rfl rfl hy18) (fun q19 => ?_)
     refine JP_sq (i := 7) [] rfl (by kernel_rfl) (by kernel_rfl) (by kernel_rfl) rfl wn rfl (sq_load_pt_o 0 (opens_int _) ti_2 rfl rfl) (fun _ => ?_)
     refine JP_go [0, 1, 2, 3, 4, 5, 6, 7] [] rfl rfl rfl (fun w22 h1_23 hp21 => ?_)
     refine JD_bnd fun r24 hr25 => ?_
     refine JD_one (i := 8) (by kernel_rfl) ?_
     refine JO_call rfl wn rfl Tryz.call47 rfl (Ca_self (fun _ => rfl) fun w hh => c_impl_applyRewrite _ w (fun _ hk => hk.elim) _ _ (hh.rd0 4 rfl) _ _ (hh.rd0 5 rfl) _ _ _ hr25) (fun x26 => ?_)
     obtain ⟨x26_0, x26_1⟩ := x26
     refine JD_ctx (fun w hh => hh.tkn_rd 0 rfl) (fun _ hb => hb) ?_
     refine JD_take (i := 9) hp21 rfl (by kernel_rfl) (by kernel_rfl) (by kernel_rfl) wn rfl (ex_move rfl) ?_
     refine JD_take (i := 10) hp21 rfl (by kernel_rfl) (by kernel_rfl) (by kernel_rfl) wn rfl (ex_extract rfl rfl) ?_
     refine JD_take (i := 11) hp21 rfl (by kernel_rfl) (by kernel_rfl) (by kernel_rfl) wn rfl (ex_extract rfl rfl) ?_
     refine JD_take (i := 12) hp21 rfl (by kernel_rfl) (by kernel_rfl) (by kernel_rfl) wn rfl (ex_assign rfl) ?_
     refine JD_take (i := 13) hp21 rfl (by kernel_rfl) (by kernel_rfl) (by kernel_rfl) wn rfl (ex_assign rfl) ?_
     refine JD_done (by kernel_rfl) ?_
     refine N_then ?_
     refine J_seq ?_
     refine J_sr ?_
     refine JM rfl rfl ?_
     refine JL_q wn rfl (ex_neq rfl rfl) ?_
     refine JL_nt ?_
     refine J_if rfl (fun h27 => ?_) (fun h27 => ?_)
     ·refine J_sr ?_
      refine JA rfl rfl ?_
      refine JA rfl rfl ?_
      refine JL_nt ?_
      refine J_ret ?_
      refine N_then_ret ?_
      refine N_block_ret ?_
      refine N_then_ret ?_
      refine N_round_ret ?_
      refine N_then_ret ?_
      refine N_ctx (fun w hh => SH.ow_nil (α := Int) 2 hh) ?_
      refine N_ctx (fun w hh => hh.tokf 0 rfl rfl) ?_
      exact N_ret2 rfl (rv_tmp rfl) (rv_tmp rfl) (fun w hh => ⟨((.slice none 0 0 : Value), ((.slice none 0 0 : Value).ownBlock.toList ++ [])), rfl, hh.sel [0] rfl⟩)
     ·refine J_skip ?_
      refine N_then ?_
      refine J_region ?_
      refine JM rfl rfl ?_
      refine JA rfl rfl ?_
      refine JL_nil ?_
      refine N_block ?_
      refine N_then ?_
      refine J_region ?_
      refine JL_q wn rfl (ex_add rfl rfl) ?_
      refine JM rfl rfl ?_
      refine JL_nil ?_
      exact N_next' (x26_0, x26_1) ⟨rfl, rfl, rfl, rfl, rfl, trivial⟩ [6, 0, 1, 9] rfl rfl
   ·refine J_exit ?_
    refine N_then_exit ?_
    exact N_break' (g6_0, g6_1) ⟨rfl, rfl, rfl, rfl, rfl, trivial⟩ [0, 1, 2, 3] rfl rfl
  ·obtain ⟨g6_0, g6_1⟩ := g6
   refine N_then ?_
   refine J_sr ?_
   refine JM rfl rfl ?_
   refine JA rfl rfl ?_
   refine JA rfl rfl ?_
   refine JL_nt ?_
   refine J_ret ?_
   exact N_ret2 rfl (rv_tmp rfl) (rv_tmp rfl) (fun w hh => ⟨(g6_0, g6_1), rfl, hh.sel [2] rfl⟩)
set_option maxHeartbeats 40000000 in
theorem c_impl_CheckDerivation (A : Nat → Prop) (w : World) (hA : ∀ k, A k → k < w.heap.size) (v0_ : Value) (p0 : (List GRewrite)) (hp0 : Rd A w v0_ p0) (v1_ : Value) (p1 : (List Int)) (hp1 : Rd A w v1_ p1) (v2_ : Value) (p2 : (List (List Int))) (hp2 : Rd A w v2_ p2) (r : (List Int) × Int) (hr : F_impl_CheckDerivation p0 p1 p2 = some r) :
  Con Tryz.prog 10 [v0_, v1_, v2_] A w (fun x_ : Value × List Nat => .tuple #[x_.1, .int .i64 r.2]) (fun x_ => [.tkn x_.1 r.1 x_.2]) := by
 refine Con_of (v := fun (r : (List Int) × Int) (x_ : Value × List Nat) => .tuple #[x_.1, .int .i64 r.2]) (fs := fun r x_ => [.tkn x_.1 r.1 x_.2]) Tryz.func10 rfl Tryz.ntmps10 rfl ((((SH.start hA).start_rd rfl hp0).start_rd rfl hp1).start_rd rfl hp2) rfl ?_ hr
 unfold F_impl_CheckDerivation
 refine J_sr ?_
 refine JA rfl rfl ?_
 refine JA rfl rfl ?_
 refine JL_nt ?_
 refine J_seq ?_
 refine J_sr ?_
 refine JM rfl rfl ?_
 refine JL_bnd fun r1 hr2 => ?_
 refine JL_call wn rfl Tryz.call39 rfl (Ca_of0 fun w hh => c_impl_ValidRewrites _ w (fun _ hk => hk.elim) _ _ (hh.rd0 2 rfl) _ hr2) (fun _ => ?_)
 refine JL_q wn rfl (ex_not rfl) ?_
 refine JM rfl rfl ?_
 refine JL_cond (fun h3 => ?_) (fun h3 => ?_)
 ·refine JL_passed rfl rfl rfl h3 ?_
  refine JL_passed rfl rfl rfl h3 ?_
  refine JL_passed rfl rfl rfl h3 ?_
  refine JL_q wn rfl (ex_pick_true rfl h3 rfl) ?_
  refine JL_nt ?_
  refine J_if_true rfl rfl ?_
  refine J_sr ?_
  refine JA rfl rfl ?_
  refine JA rfl rfl ?_
  refine JL_nt ?_
  refine J_ret ?_
  refine N_then_ret ?_
  refine N_ctx (fun w hh => SH.ow_nil (α := Int) 2 hh) ?_
  refine N_ctx (fun w hh => hh.tokf 0 rfl rfl) ?_
  exact N_ret2 rfl (rv_tmp rfl) (rv_tmp rfl) (fun w hh => ⟨((.slice none 0 0 : Value), ((.slice none 0 0 : Value).ownBlock.toList ++ [])), rfl, hh.sel [0] rfl⟩)
 ·refine JL_q (wants_some rfl rfl rfl h3) rfl (ex_move rfl) ?_
  refine JL_bnd fun r4 hr5 => ?_
  refine JL_call (wants_some rfl rfl rfl h3) rfl Tryz.call40 rfl (Ca_of0 fun w hh => c_impl_IsWord _ w (fun _ hk => hk.elim) _ _ (hh.rd0 1 rfl) _ hr5) (fun _ => ?_)
  refine JL_q (wants_some rfl rfl rfl h3) rfl (ex_not rfl) ?_
  refine JL_q wn rfl (ex_pick_false rfl h3 rfl) ?_
  refine JL_nt ?_
  refine J_if rfl (fun h6 => ?_) (fun h6 => ?_)
  ·refine J_sr ?_
   refine JA rfl rfl ?_
   refine JA rfl rfl ?_
   refine JL_nt ?_
   refine J_ret ?_
   refine N_then_ret ?_
   refine N_ctx (fun w hh => SH.ow_nil (α := Int) 2 hh) ?_
   refine N_ctx (fun w hh => hh.tokf 0 rfl rfl) ?_
   exact N_ret2 rfl (rv_tmp rfl) (rv_tmp rfl) (fun w hh => ⟨((.slice none 0 0 : Value), ((.slice none 0 0 : Value).ownBlock.toList ++ [])), rfl, hh.sel [0] rfl⟩)
  ·refine J_skip ?_
   refine N_then ?_
   refine J_sr ?_
   refine JM rfl rfl ?_
   refine JM rfl rfl ?_
   refine JM rfl rfl ?_
   refine JL_bnd fun r7 hr8 => ?_
   refine JL_call wn rfl Tryz.call41 rfl (Ca_self (fun _ => rfl) fun w hh => c_impl_derived _ w (fun _ hk => hk.elim) _ _ (hh.rd0 2 rfl) _ _ (hh.rd0 1 rfl) _ _ (hh.rd0 0 rfl) _ hr8) (fun x9 => ?_)
   obtain ⟨x9_0, x9_1⟩ := x9
   refine JL_ctx (fun w hh => hh.tkn_rd 0 rfl) ?_
   refine JL_q wn rfl (ex_extract rfl rfl) ?_
   refine JL_q wn rfl (ex_extract rfl rfl) ?_
   refine JA rfl rfl ?_
   refine JA rfl rfl ?_
   refine JL_nt ?_
   refine J_ret ?_
   exact N_ret2 rfl (rv_tmp rfl) (rv_tmp rfl) (fun w hh => ⟨(x9_0, x9_1), rfl, hh.sel [1] rfl⟩)
set_option maxHeartbeats 40000000 in
theorem c_impl_StepsOfDerivation (A : Nat → Prop) (w : World) (hA : ∀ k, A k → k < w.heap.size) (v0_ : Value) (p0 : GMachine) (hp0 : Rd A w v0_ p0) (v1_ : Value) (p1 : GConfig) (hp1 : Rd A w v1_ p1) (v2_ : Value) (p2 : (List (List Int))) (hp2 : Rd A w v2_ p2) (r : Int × Int) (hr : F_impl_StepsOfDerivation p0 p1 p2 = some r) :
  Con Tryz.prog 11 [v0_, v1_, v2_] A w (fun x_ : Unit => .tuple #[.int .i64 r.1, .int .i64 r.2]) (fun x_ => []) := by
 obtain ⟨v0_0, rfl, hp0_0⟩ := GMachine.open hp0
 obtain ⟨v1_0, v1_1, rfl, hp1_0, hp1_1⟩ := GConfig.open hp1
 refine Con_of (v := fun (r : Int × Int) (x_ : Unit) => .tuple #[.int .i64 r.1, .int .i64 r.2]) (fs := fun r x_ => []) Tryz.func11 rfl Tryz.ntmps11 rfl (((((SH.start hA).start_rd rfl hp0_0).start_rd rfl hp1_0).start_rd rfl hp1_1).start_rd rfl hp2) rfl ?_ hr
 unfold F_impl_StepsOfDerivation
 refine J_sr ?_
 refine JL_st wn rfl (st_box' rfl (fun w hh => (cv_aggs ⟨cv_int, cv_int, (hh.cv 3 rfl), trivial⟩))) (fun b1 => ?_)
 refine JL_st wn rfl (st_box' rfl (fun w hh => (cv_aggs ⟨cv_int, (hh.cv 3 rfl), (hh.cv 2 rfl), trivial⟩))) (fun b2 => ?_)
 refine JA rfl rfl ?_
 refine JA rfl rfl ?_
 refine JL_nt ?_
 refine J_seq ?_
 refine J_sr ?_
 refine JL_q wn rfl (ex_load_bx_agg 1 ti_26 rfl rfl rfl rfl) ?_
 refine JL_q wn rfl (ex_load_bx_agg 0 ti_29 rfl rfl rfl rfl) ?_
 refine JL_bnd fun r3 hr4 => ?_
 refine JL_call wn rfl Tryz.call23 rfl (Ca_of0 fun w hh => c_impl_ValidConfig _ w (fun _ hk => hk.elim) _ _ (GMachine.rdmk (Rd.mk_int _ _ _) (Rd.mk_int _ _ _) (hh.rd0 5 rfl)) _ _ (GConfig.rdmk (Rd.mk_int _ _ _) (hh.rd0 4 rfl) (hh.rd0 3 rfl)) _ hr4) (fun _ => ?_)
 refine JL_q wn rfl (ex_not rfl) ?_
 refine JL_nt ?_
 refine J_if rfl (fun h5 => ?_) (fun h5 => ?_)
 ·refine J_sr ?_
  refine JA rfl rfl ?_
  refine JA rfl rfl ?_
  refine JL_nt ?_
  refine J_ret ?_
  refine N_then_ret ?_
  exact N_ret2 rfl (rv_tmp rfl) (rv_tmp rfl) (fun w hh => ⟨(), rfl, hh.sel [] rfl⟩)
 ·refine J_skip ?_
  refine N_then ?_
  refine J_sr ?_
  refine JL_q wn rfl (ex_load_bx_agg 1 ti_26 rfl rfl rfl rfl) ?_
  refine JL_q wn rfl (ex_load_bx_agg 0 ti_29 rfl rfl rfl rfl) ?_
  refine JL_bnd fun r6 hr7 => ?_
  refine JL_call wn rfl Tryz.call30 rfl (Ca_self (fun _ => rfl) fun w hh => c_impl_haltWords _ w (fun _ hk => hk.elim) _ _ (GMachine.rdmk (Rd.mk_int _ _ _) (Rd.mk_int _ _ _) (hh.rd0 5 rfl)) _ _ (GConfig.rdmk (Rd.mk_int _ _ _) (hh.rd0 4 rfl) (hh.rd0 3 rfl)) _ hr7) (fun x8 => ?_)
  obtain ⟨x8_0, x8_1, x8_2⟩ := x8
  refine JL_ctx (fun w hh => hh.tkn_rd 0 rfl) ?_
  refine JM rfl rfl ?_
  refine JL_q wn rfl (ex_extract rfl rfl) ?_
  refine JL_q wn rfl (ex_extract rfl rfl) ?_
  refine JL_q wn rfl (ex_extract rfl rfl) ?_
  refine JA rfl rfl ?_
  refine JA rfl rfl ?_
  refine JA rfl rfl ?_
  refine JL_nt ?_
  refine J_seq ?_
  refine J_sr ?_
  refine JM rfl rfl ?_
  refine JL_q wn rfl (ex_neq rfl rfl) ?_
  refine JL_nt ?_
  refine J_if rfl (fun h9 => ?_) (fun h9 => ?_)
  ·refine J_sr ?_
   refine JM rfl rfl ?_
   refine JA rfl rfl ?_
   refine JA rfl rfl ?_
   refine JL_nt ?_
   refine J_ret ?_
   refine N_then_ret ?_
   exact N_ret2 rfl (rv_tmp rfl) (rv_tmp rfl) (fun w hh => ⟨(), rfl, hh.sel [] rfl⟩)
  ·refine J_skip ?_
   refine N_then ?_
   refine J_sr ?_
   refine JL_q wn rfl (ex_load_bx_agg 4 ti_26 rfl rfl rfl rfl) ?_
   refine JL_bnd fun r10 hr11 => ?_
   refine JL_call wn rfl Tryz.call29 rfl (Ca_self (fun _ => rfl) fun w hh => c_impl_haltRewrites _ w (fun _ hk => hk.elim) _ _ (GMachine.rdmk (Rd.mk_int _ _ _) (Rd.mk_int _ _ _) (hh.rd0 8 rfl)) _ hr11) (fun x12 => ?_)
   obtain ⟨x12_0, x12_1⟩ := x12
   refine JM rfl rfl ?_
   refine JL_q wn rfl (ex_extract rfl rfl) ?_
   refine JL_q wn rfl (ex_extract rfl rfl) ?_
   refine JL_q wn rfl (ex_extract rfl rfl) ?_
   refine JA rfl rfl ?_
   refine JA rfl rfl ?_
   refine JA rfl rfl ?_
   refine JL_nt ?_
   refine J_seq ?_
   refine J_sr ?_
   refine JM rfl rfl ?_
   refine JL_q wn rfl (ex_neq rfl rfl) ?_
   refine JL_nt ?_
   refine J_if rfl (fun h13 => ?_) (fun h13 => ?_)
   ·refine J_sr ?_
    refine JM rfl rfl ?_
    refine JA rfl rfl ?_
    refine JA rfl rfl ?_
    refine JL_nt ?_
    refine J_ret ?_
    refine N_then_ret ?_
    exact N_ret2 rfl (rv_tmp rfl) (rv_tmp rfl) (fun w hh => ⟨(), rfl, hh.sel [] rfl⟩)
   ·refine J_skip ?_
    refine N_then ?_
    refine J_sr ?_
    refine JM rfl rfl ?_
    refine JM rfl rfl ?_
    refine JM rfl rfl ?_
    refine JL_bnd fun r14 hr15 => ?_
    refine JL_call wn rfl Tryz.call41 rfl (Ca_self (fun _ => rfl) fun w hh => c_impl_derived _ w (fun _ hk => hk.elim) _ _ (hh.od0 0 rfl) _ _ (hh.rd0 1 rfl) _ _ (hh.rd0 6 rfl) _ hr15) (fun x16 => ?_)
    obtain ⟨x16_0, x16_1⟩ := x16
    refine JL_ctx (fun w hh => hh.tkn_rd 0 rfl) ?_
    refine JM rfl rfl ?_
    refine JL_q wn rfl (ex_extract rfl rfl) ?_
    refine JL_q wn rfl (ex_extract rfl rfl) ?_
    refine JA rfl rfl ?_
    refine JA rfl rfl ?_
    refine JL_nt ?_
    refine J_seq ?_
    refine J_block ?_
    refine J_sr ?_
    refine JM rfl rfl ?_
    refine JL_q wn rfl (ex_neq rfl rfl) ?_
    refine JA rfl rfl ?_
    refine JL_nt ?_
    refine J_if rfl (fun h17 => ?_) (fun h17 => ?_)
    ·refine J_sr ?_
     refine JM rfl rfl ?_
     refine JA rfl rfl ?_
     refine JA rfl rfl ?_
     refine JL_nt ?_
     refine J_ret ?_
     refine N_block_ret ?_
     refine N_then_ret ?_
     exact N_ret2 rfl (rv_tmp rfl) (rv_tmp rfl) (fun w hh => ⟨(), rfl, hh.sel [] rfl⟩)
    ·refine J_sr ?_
     refine JM rfl rfl ?_
     refine JM rfl rfl ?_
     refine JL_bnd fun r18 hr19 => ?_
     refine JL_call wn rfl Tryz.call42 rfl (Ca_of0 fun w hh => c_slices_Equal_Sint64_int64 _ w (fun _ hk => hk.elim) _ _ (hh.rd0 0 rfl) _ _ (hh.ow0 5 rfl) _ hr19) (fun _ => ?_)
     refine JL_q wn rfl (ex_not rfl) ?_
     refine JA rfl rfl ?_
     refine JL_nt ?_
     refine J_if rfl (fun h20 => ?_) (fun h20 => ?_)
     ·refine J_sr ?_
      refine JA rfl rfl ?_
      refine JA rfl rfl ?_
      refine JL_nt ?_
      refine J_ret ?_
      refine N_block_ret ?_
      refine N_then_ret ?_
      exact N_ret2 rfl (rv_tmp rfl) (rv_tmp rfl) (fun w hh => ⟨(), rfl, hh.sel [] rfl⟩)
     ·refine J_skip ?_
      refine N_block ?_
      refine N_then ?_
      refine J_sr ?_
      refine JA rfl rfl ?_
      refine JL_nt ?_
      refine J_seq ?_
      refine J_sr ?_
      refine JM rfl rfl ?_
      refine JL_q wn rfl (ex_len_rd 8 Tryz.underlying39 rfl rfl) ?_
      refine JM rfl rfl ?_
      refine JL_nt ?_
      refine J_loop' (S := Int × Int) (G := Unit) (F_impl_StepsOfDerivation_L1 p2 r10) (fun s21 _ => [(12, .int .i64 r10.2.1), (14, .int .i64 s21.1), (56, v2_), (57, .int .i64 (p2.length : Int)), (58, .int .i64 s21.2)]) (fun s21 _ => [.rd v2_ p2]) (0, 0) () ⟨rfl, rfl, rfl, rfl, rfl, trivial⟩ [8] rfl rfl (fun s21 g22 => ?_) (fun s21 g22 => ?_)
      ·unfold F_impl_StepsOfDerivation_L1
       refine J_sr ?_
       refine JL_q wn rfl (ex_lss rfl rfl) ?_
       refine JL_nt ?_
       refine J_seq ?_
       refine J_if rfl (fun h23 => ?_) (fun h23 => ?_)
       ·refine J_skip ?_
        refine N_then ?_
        refine J_seq ?_
        refine J_block ?_
        refine J_sr ?_
        refine JL_bnd fun y24 hy25 => ?_
        refine JL_st wn rfl (st_index 0 Tryz.underlying39 ti_27 rfl rfl rfl hy25) (fun q26 => ?_)
        refine JL_st wn rfl (st_load_pt_o 0 (opens_sl _) ti_27 rfl rfl) (fun v27 => ?_)
        refine JA rfl rfl ?_
        refine JL_nt ?_
        refine J_sr ?_
        refine JM rfl rfl ?_
        refine JL_bnd fun y28 hy29 => ?_
        refine JL_st wn rfl (st_index 0 Tryz.underlying27 ti_2 rfl rfl rfl hy29) (fun q30 => ?_)
        refine JL_st wn rfl (st_load_pt_o 0 (opens_int _) ti_2 rfl rfl) (fun _ => ?_)
        refine JM rfl rfl ?_
        refine JL_q wn rfl (ex_lss rfl rfl) ?_
        refine JL_nt ?_
        refine J_if rfl (fun h32 => ?_) (fun h32 => ?_)
        ·refine J_region ?_
         refine JM rfl rfl ?_
         refine JL_q wn rfl (ex_add rfl rfl) ?_
         refine JA rfl rfl ?_
         refine JL_nil ?_
         refine N_block ?_
         refine N_then ?_
         refine J_region ?_
         refine JL_q wn rfl (ex_add rfl rfl) ?_
         refine JM rfl rfl ?_
         refine JL_nil ?_
         exact N_next' () ⟨rfl, rfl, rfl, rfl, rfl, trivial⟩ [3] rfl rfl
        ·refine J_skip ?_
         refine N_block ?_
         refine N_then ?_
         refine J_region ?_
         refine JL_q wn rfl (ex_add rfl rfl) ?_
         refine JM rfl rfl ?_
         refine JL_nil ?_
         exact N_next' () ⟨rfl, rfl, rfl, rfl, rfl, trivial⟩ [3] rfl rfl
       ·refine J_exit ?_
        refine N_then_exit ?_
        exact N_break' () ⟨rfl, rfl, rfl, rfl, rfl, trivial⟩ [0] rfl rfl
      ·refine N_then ?_
       refine J_sr ?_
       refine JM rfl rfl ?_
       refine JA rfl rfl ?_
       refine JA rfl rfl ?_
       refine JL_nt ?_
       refine J_ret ?_
       exact N_ret2 rfl (rv_tmp rfl) (rv_tmp rfl) (fun w hh => ⟨(), rfl, hh.sel [] rfl⟩)
set_option maxHeartbeats 40000000 in
theorem c_laws_b10Nums (A : Nat → Prop) (w : World) (hA : ∀ k, A k → k < w.heap.size) (v0_ : Value) (p0 : (List Int)) (hp0 : Rd A w v0_ p0) (v1_ : Value) (p1 : (List Int)) (hp1 : Rd A w v1_ p1) (r : Bool) (hr : F_laws_b10Nums p0 p1 = some r) :
  Con Tryz.prog 12 [v0_, v1_] A w (fun x_ : Unit => .bool r) (fun x_ => []) := by
 refine Con_of (v := fun (r : Bool) (x_ : Unit) => .bool r) (fs := fun r x_ => []) Tryz.func12 rfl Tryz.ntmps12 rfl (((SH.start hA).start_rd rfl hp0).start_rd rfl hp1) rfl ?_ hr
 unfold F_laws_b10Nums
 refine J_sr ?_
 refine JA rfl rfl ?_
 refine JL_nt ?_
 refine J_seq ?_
 refine J_sr ?_
 refine JM rfl rfl ?_
 refine JL_q wn rfl (ex_len_rd 1 Tryz.underlying27 rfl rfl) ?_
 refine JM rfl rfl ?_
 refine JL_q wn rfl (ex_len_rd 0 Tryz.underlying27 rfl rfl) ?_
 refine JL_q wn rfl (ex_neq rfl rfl) ?_
 refine JL_nt ?_
 refine J_if rfl (fun h1 => ?_) (fun h1 => ?_)
 ·refine J_sr ?_
  refine JA rfl rfl ?_
  refine JL_nt ?_
  refine J_ret ?_
  refine N_then_ret ?_
  exact N_ret1 rfl (rv_tmp rfl) (fun w hh => ⟨(), rfl, hh.sel [] rfl⟩)
 ·refine J_skip ?_
  refine N_then ?_
  refine J_seq ?_
  refine J_sr ?_
  refine JA rfl rfl ?_
  refine JL_nt ?_
  refine J_loop' (S := Int) (G := Unit) (F_laws_b10Nums_L1 p0 p1) (fun s2 _ => [(0, v0_), (1, v1_), (5, .int .i64 s2)]) (fun s2 _ => [.rd v0_ p0, .rd v1_ p1]) 0 () ⟨rfl, rfl, rfl, trivial⟩ [1, 0] rfl rfl (fun s2 g3 => ?_) (fun s2 g3 => ?_)
  ·unfold F_laws_b10Nums_L1
   refine J_seq ?_
   refine J_sr ?_
   refine JM rfl rfl ?_
   refine JM rfl rfl ?_
   refine JL_q wn rfl (ex_len_rd 0 Tryz.underlying27 rfl rfl) ?_
   refine JL_q wn rfl (ex_lss rfl rfl) ?_
   refine JL_nt ?_
   refine J_if rfl (fun h4 => ?_) (fun h4 => ?_)
   ·refine J_skip ?_
    refine N_then ?_
    refine J_seq ?_
    refine J_block ?_
    refine J_seq ?_
    refine J_draw [] (by kernel_rfl) ?_
    refine JP_take (i := 0) [0, 1] [] rfl (by kernel_rfl) (by kernel_rfl) (by kernel_rfl) rfl rfl wn rfl (ex_move rfl) ?_
    refine JP_take (i := 1) [0, 1] [] rfl (by kernel_rfl) (by kernel_rfl) (by kernel_rfl) rfl rfl wn rfl (ex_move rfl) ?_
    refine JP_bnd fun y5 hy6 => ?_
    refine JP_sq (i := 2) [] rfl (by kernel_rfl) (by kernel_rfl) (by kernel_rfl) rfl wn rfl (sq_index 0 Tryz.underlying27 ti_2 rfl rfl rfl hy6) (fun q7 => ?_)
    refine JP_sq (i := 3) [] rfl (by kernel_rfl) (by kernel_rfl) (by kernel_rfl) rfl wn rfl (sq_load_pt_o 0 (opens_int _) ti_2 rfl rfl) (fun _ => ?_)
    refine JP_take (i := 4) [0, 1, 2] [] rfl (by kernel_rfl) (by kernel_rfl) (by kernel_rfl) rfl rfl wn rfl (ex_move rfl) ?_
    refine JP_take (i := 5) [0, 1, 2] [] rfl (by kernel_rfl) (by kernel_rfl) (by kernel_rfl) rfl rfl wn rfl (ex_move rfl) ?_
    refine JP_bnd fun y9 hy10 => ?_
    refine JP_sq (i := 6) [] rfl (by kernel_rfl) (by kernel_rfl) (by kernel_rfl) rfl wn rfl (sq_index 2 Tryz.underlying27 ti_2 rfl rfl rfl hy10) (fun q11 => ?_)
    refine JP_sq (i := 7) [] rfl (by kernel_rfl) (by kernel_rfl) (by kernel_rfl) rfl wn rfl (sq_load_pt_o 0 (opens_int _) ti_2 rfl rfl) (fun _ => ?_)
    refine JP_take (i := 8) [0, 1, 2, 3] [] rfl (by kernel_rfl) (by kernel_rfl) (by kernel_rfl) rfl rfl wn rfl (ex_neq rfl rfl) ?_
    refine JP_go [] [] rfl rfl rfl (fun _ _ _ => ?_)
    refine JD_done (by kernel_rfl) ?_
    refine N_then ?_
    refine J_if rfl (fun h13 => ?_) (fun h13 => ?_)
    ·refine J_sr ?_
     refine JA rfl rfl ?_
     refine JL_nt ?_
     refine J_ret ?_
     refine N_block_ret ?_
     refine N_then_ret ?_
     refine N_round_ret ?_
     refine N_then_ret ?_
     exact N_ret1 rfl (rv_tmp rfl) (fun w hh => ⟨(), rfl, hh.sel [] rfl⟩)
    ·refine J_skip ?_
     refine N_block ?_
     refine N_then ?_
     refine J_region ?_
     refine JM rfl rfl ?_
     refine JL_q wn rfl (ex_add rfl rfl) ?_
     refine JA rfl rfl ?_
     refine JL_nil ?_
     exact N_next' () ⟨rfl, rfl, rfl, trivial⟩ [2, 3] rfl rfl
   ·refine J_exit ?_
    refine N_then_exit ?_
    exact N_break' () ⟨rfl, rfl, rfl, trivial⟩ [0, 1] rfl rfl
  ·refine N_then ?_
   refine J_sr ?_
   refine JA rfl rfl ?_
   refine JL_nt ?_
   refine J_ret ?_
   exact N_ret1 rfl (rv_tmp rfl) (fun w hh => ⟨(), rfl, hh.sel [] rfl⟩)
set_option maxHeartbeats 40000000 in
theorem c_impl_size_impl_Domino (A : Nat → Prop) (w : World) (hA : ∀ k, A k → k < w.heap.size) (v0_ : Value) (p0 : (List GDomino)) (hp0 : Rd A w v0_ p0) (r : Int) (hr : F_impl_size_impl_Domino p0 = some r) :
  Con Tryz.prog 49 [v0_] A w (fun x_ : Unit => .int .i64 r) (fun x_ => []) := by
 refine Con_of (v := fun (r : Int) (x_ : Unit) => .int .i64 r) (fs := fun r x_ => []) Tryz.func49 rfl Tryz.ntmps49 rfl ((SH.start hA).start_rd rfl hp0) rfl ?_ hr
 unfold F_impl_size_impl_Domino
 refine J_sr ?_
 refine JA rfl rfl ?_
 refine JL_nt ?_
 refine J_sr ?_
 refine JM rfl rfl ?_
 refine JL_q wn rfl (ex_len_rd 0 Tryz.underlying47 rfl rfl) ?_
 refine JA rfl rfl ?_
 refine JL_nt ?_
 refine J_ret ?_
 exact N_ret1 rfl (rv_tmp rfl) (fun w hh => ⟨(), rfl, hh.sel [] rfl⟩)
set_option maxHeartbeats 40000000 in
theorem c_slices_IndexFunc_Simpl_Domino_impl_Domino (A : Nat → Prop) (w : World) (hA : ∀ k, A k → k < w.heap.size) (v0_ : Value) (p0 : (List GDomino)) (hp0 : Rd A w v0_ p0) (v1_ : Value) (p1 : (GDomino → Option Bool)) (hp1 : Clo Tryz.prog w v1_ p1 .bool) (r : Int) (hr : F_slices_IndexFunc_Simpl_Domino_impl_Domino p0 p1 = some r) :
  Con Tryz.prog 120 [v0_, v1_] A w (fun x_ : Unit => .int .i64 r) (fun x_ => []) := by
 refine Con_of (v := fun (r : Int) (x_ : Unit) => .int .i64 r) (fs := fun r x_ => []) Tryz.func120 rfl Tryz.ntmps120 rfl ((SH.start hA).start_rd rfl hp0) rfl ?_ hr
 unfold F_slices_IndexFunc_Simpl_Domino_impl_Domino
 refine J_sr ?_
 refine JA rfl rfl ?_
 refine JL_nt ?_
 refine J_seq ?_
 refine J_sr ?_
 refine JM rfl rfl ?_
 refine JL_q wn rfl (ex_len_rd 0 Tryz.underlying47 rfl rfl) ?_
 refine JM rfl rfl ?_
 refine JL_nt ?_
 refine J_loop' (S := Int) (G := Unit) (F_slices_IndexFunc_Simpl_Domino_impl_Domino_L1 p0 p1) (fun s1 _ => [(0, v0_), (1, v1_), (7, .int .i64 (p0.length : Int)), (8, .int .i64 s1)]) (fun s1 _ => [.rd v0_ p0]) 0 () ⟨rfl, rfl, rfl, rfl, trivial⟩ [0] rfl rfl (fun s1 g2 => ?_) (fun s1 g2 => ?_)
 ·unfold F_slices_IndexFunc_Simpl_Domino_impl_Domino_L1
  refine J_sr ?_
  refine JL_q wn rfl (ex_lss rfl rfl) ?_
  refine JL_nt ?_
  refine J_seq ?_
  refine J_if rfl (fun h3 => ?_) (fun h3 => ?_)
  ·refine J_skip ?_
   refine N_then ?_
   refine J_seq ?_
   refine J_block ?_
   refine J_sr ?_
   refine JM rfl rfl ?_
   refine JA rfl rfl ?_
   refine JL_nt ?_
   refine J_sr ?_
   refine JM rfl rfl ?_
   refine JM rfl rfl ?_
   refine JM rfl rfl ?_
   refine JL_bnd fun y4 hy5 => ?_
   refine JL_st wn rfl (st_index 0 Tryz.underlying47 ti_95 rfl rfl rfl hy5) (fun q6 => ?_)
   refine JL_st wn rfl (st_load_pt_o 0 (GDomino.opens _) ti_95 rfl rfl) (fun v7 => ?_)
   refine JL_bnd fun r8 hr9 => ?_
   refine JL_clo wn rfl hp1 rfl rfl (fun w hh => (GDomino.rdmk (hh.rd0 0 rfl) (hh.rd0 1 rfl))) hr9 ?_
   refine JL_nt ?_
   refine J_if rfl (fun h10 => ?_) (fun h10 => ?_)
   ·refine J_sr ?_
    refine JM rfl rfl ?_
    refine JA rfl rfl ?_
    refine JL_nt ?_
    refine J_ret ?_
    refine N_block_ret ?_
    refine N_then_ret ?_
    refine N_round_ret ?_
    refine N_then_ret ?_
    exact N_ret1 rfl (rv_tmp rfl) (fun w hh => ⟨(), rfl, hh.sel [] rfl⟩)
   ·refine J_skip ?_
    refine N_block ?_
    refine N_then ?_
    refine J_region ?_
    refine JL_q wn rfl (ex_add rfl rfl) ?_
    refine JM rfl rfl ?_
    refine JL_nil ?_
    exact N_next' () ⟨rfl, rfl, rfl, rfl, trivial⟩ [3] rfl rfl
  ·refine J_exit ?_
   refine N_then_exit ?_
   exact N_break' () ⟨rfl, rfl, rfl, rfl, trivial⟩ [0] rfl rfl
 ·refine N_then ?_
  refine J_sr ?_
  refine JA rfl rfl ?_
  refine JL_nt ?_
  refine J_ret ?_
  exact N_ret1 rfl (rv_tmp rfl) (fun w hh => ⟨(), rfl, hh.sel [] rfl⟩)
set_option maxHeartbeats 40000000 in
theorem c_slices_ContainsFunc_Simpl_Domino_impl_Domino (A : Nat → Prop) (w : World) (hA : ∀ k, A k → k < w.heap.size) (v0_ : Value) (p0 : (List GDomino)) (hp0 : Rd A w v0_ p0) (v1_ : Value) (p1 : (GDomino → Option Bool)) (hp1 : Clo Tryz.prog w v1_ p1 .bool) (r : Bool) (hr : F_slices_ContainsFunc_Simpl_Domino_impl_Domino p0 p1 = some r) :
  Con Tryz.prog 101 [v0_, v1_] A w (fun x_ : Unit => .bool r) (fun x_ => []) := by
 refine Con_of (v := fun (r : Bool) (x_ : Unit) => .bool r) (fs := fun r x_ => []) Tryz.func101 rfl Tryz.ntmps101 rfl ((SH.start hA).start_rd rfl hp0) rfl ?_ hr
 unfold F_slices_ContainsFunc_Simpl_Domino_impl_Domino
 refine J_sr ?_
 refine JA rfl rfl ?_
 refine JL_nt ?_
 refine J_sr ?_
 refine JM rfl rfl ?_
 refine JM rfl rfl ?_
 refine JL_bnd fun r1 hr2 => ?_
 refine JL_call wn rfl Tryz.call120 rfl (Ca_of0 fun w hh => c_slices_IndexFunc_Simpl_Domino_impl_Domino _ w (fun _ hk => hk.elim) _ _ (hh.rd0 0 rfl) _ _ (hp1.later hh.below) _ hr2) (fun _ => ?_)
 refine JL_q wn rfl (ex_geq rfl rfl) ?_
 refine JA rfl rfl ?_
 refine JL_nt ?_
 refine J_ret ?_
 exact N_ret1 rfl (rv_tmp rfl) (fun w hh => ⟨(), rfl, hh.sel [] rfl⟩)
set_option maxHeartbeats 40000000 in
theorem c_impl_validDomino (A : Nat → Prop) (w : World) (hA : ∀ k, A k → k < w.heap.size) (v0_ : Value) (p0 : GDomino) (hp0 : Rd A w v0_ p0) (r : Bool) (hr : F_impl_validDomino p0 = some r) :
  Con Tryz.prog 103 [v0_] A w (fun x_ : Unit => .bool r) (fun x_ => []) := by
 obtain ⟨v0_0, v0_1, rfl, hp0_0, hp0_1⟩ := GDomino.open hp0
 refine Con_of (v := fun (r : Bool) (x_ : Unit) => .bool r) (fs := fun r x_ => []) Tryz.func103 rfl Tryz.ntmps103 rfl (((SH.start hA).start_rd rfl hp0_0).start_rd rfl hp0_1) rfl ?_ hr
 unfold F_impl_validDomino
 refine J_sr ?_
 refine JL_st wn rfl (st_box' rfl (fun w hh => (cv_aggs ⟨(hh.cv 1 rfl), (hh.cv 0 rfl), trivial⟩))) (fun b1 => ?_)
 refine JA rfl rfl ?_
 refine JL_nt ?_
 refine J_sr ?_
 refine JL_q wn rfl (ex_fieldAddr fi_95_0 rfl rfl) ?_
 refine JL_q wn rfl (ex_load_bx 0 ti_27 rfl rfl rfl) ?_
 refine JL_q wn rfl (ex_fieldAddr fi_95_1 rfl rfl) ?_
 refine JL_q wn rfl (ex_load_bx 0 ti_27 rfl rfl rfl) ?_
 refine JL_st wn rfl (st_buildSlice (vs := [v0_0, v0_1]) ([p0.Top, p0.Bottom] : List (List Int)) Tryz.underlying39 ti_27 zi_27 rfl rfl rfl (fun w hh => ⟨(hh.rd 2 rfl), (hh.rd 1 rfl), trivial⟩)) (fun b2 => ?_)
 refine JL_bnd fun r3 hr4 => ?_
 refine JL_call wn rfl Tryz.call43 rfl (Ca_of0 fun w hh => c_impl_areWords _ w (fun _ hk => hk.elim) _ _ (hh.ow0 0 rfl) _ hr4) (fun _ => ?_)
 refine JM rfl rfl ?_
 refine JL_cond (fun h5 => ?_) (fun h5 => ?_)
 ·refine JL_q (wants_some rfl rfl rfl h5) rfl (ex_fieldAddr fi_95_0 rfl rfl) ?_
  refine JL_q (wants_some rfl rfl rfl h5) rfl (ex_load_bx 1 ti_27 rfl rfl rfl) ?_
  refine JL_q (wants_some rfl rfl rfl h5) rfl (ex_len_rd 3 Tryz.underlying27 rfl rfl) ?_
  refine JL_q (wants_some rfl rfl rfl h5) rfl (ex_fieldAddr fi_95_1 rfl rfl) ?_
  refine JL_q (wants_some rfl rfl rfl h5) rfl (ex_load_bx 1 ti_27 rfl rfl rfl) ?_
  refine JL_q (wants_some rfl rfl rfl h5) rfl (ex_len_rd 2 Tryz.underlying27 rfl rfl) ?_
  refine JL_q (wants_some rfl rfl rfl h5) rfl (ex_add rfl rfl) ?_
  refine JL_q (wants_some rfl rfl rfl h5) rfl (ex_gtr rfl rfl) ?_
  refine JL_q wn rfl (ex_pick_true rfl h5 rfl) ?_
  refine JA rfl rfl ?_
  refine JL_nt ?_
  refine J_ret ?_
  exact N_ret1 rfl (rv_tmp rfl) (fun w hh => ⟨(), rfl, hh.sel [] rfl⟩)
 ·refine JL_passed rfl rfl rfl h5 ?_
  refine JL_passed rfl rfl rfl h5 ?_
  refine JL_passed rfl rfl rfl h5 ?_
  refine JL_passed rfl rfl rfl h5 ?_
  refine JL_passed rfl rfl rfl h5 ?_
  refine JL_passed rfl rfl rfl h5 ?_
  refine JL_passed rfl rfl rfl h5 ?_
  refine JL_passed rfl rfl rfl h5 ?_
  refine JL_q wn rfl (ex_pick_false rfl h5 rfl) ?_
  refine JA rfl rfl ?_
  refine JL_nt ?_
  refine J_ret ?_
  exact N_ret1 rfl (rv_tmp rfl) (fun w hh => ⟨(), rfl, hh.sel [] rfl⟩)
set_option maxHeartbeats 40000000 in
theorem c_impl_ValidDominoes_1 (A : Nat → Prop) (w : World) (hA : ∀ k, A k → k < w.heap.size) (v0_ : Value) (p0 : GDomino) (hp0 : Rd A w v0_ p0) (r : Bool) (hr : F_impl_ValidDominoes_1 p0 = some r) :
  Con Tryz.prog 102 [v0_] A w (fun x_ : Unit => .bool r) (fun x_ => []) := by
 obtain ⟨v0_0, v0_1, rfl, hp0_0, hp0_1⟩ := GDomino.open hp0
 refine Con_of (v := fun (r : Bool) (x_ : Unit) => .bool r) (fs := fun r x_ => []) Tryz.func102 rfl Tryz.ntmps102 rfl (((SH.start hA).start_rd rfl hp0_0).start_rd rfl hp0_1) rfl ?_ hr
 unfold F_impl_ValidDominoes_1
 refine J_sr ?_
 refine JL_st wn rfl (st_box' rfl (fun w hh => (cv_aggs ⟨(hh.cv 1 rfl), (hh.cv 0 rfl), trivial⟩))) (fun b1 => ?_)
 refine JA rfl rfl ?_
 refine JL_nt ?_
 refine J_sr ?_
 refine JL_q wn rfl (ex_load_bx_agg 0 ti_95 rfl rfl rfl rfl) ?_
 refine JL_bnd fun r2 hr3 => ?_
 refine JL_call wn rfl Tryz.call103 rfl (Ca_of0 fun w hh => c_impl_validDomino _ w (fun _ hk => hk.elim) _ _ (GDomino.rdmk (hh.rd0 2 rfl) (hh.rd0 1 rfl)) _ hr3) (fun _ => ?_)
 refine JL_q wn rfl (ex_not rfl) ?_
 refine JA rfl rfl ?_
 refine JL_nt ?_
 refine J_ret ?_
 exact N_ret1 rfl (rv_tmp rfl) (fun w hh => ⟨(), rfl, hh.sel [] rfl⟩)
set_option maxHeartbeats 40000000 in
theorem c_impl_ValidDominoes (A : Nat → Prop) (w : World) (hA : ∀ k, A k → k < w.heap.size) (v0_ : Value) (p0 : (List GDomino)) (hp0 : Rd A w v0_ p0) (r : Bool) (hr : F_impl_ValidDominoes p0 = some r) :
  Con Tryz.prog 57 [v0_] A w (fun x_ : Unit => .bool r) (fun x_ => []) := by
 refine Con_of (v := fun (r : Bool) (x_ : Unit) => .bool r) (fs := fun r x_ => []) Tryz.func57 rfl Tryz.ntmps57 rfl ((SH.start hA).start_rd rfl hp0) rfl ?_ hr
 unfold F_impl_ValidDominoes
 refine J_sr ?_
 refine JA rfl rfl ?_
 refine JL_nt ?_
 refine J_sr ?_
 refine JM rfl rfl ?_
 refine JL_bnd fun r1 hr2 => ?_
 refine JL_call wn rfl Tryz.call49 rfl (Ca_of0 fun w hh => c_impl_size_impl_Domino _ w (fun _ hk => hk.elim) _ _ (hh.rd0 0 rfl) _ hr2) (fun _ => ?_)
 refine JL_bnd fun r3 hr4 => ?_
 refine JL_call wn rfl Tryz.call64 rfl (Ca_of0 fun w hh => c_impl_within _ w (fun _ hk => hk.elim) _ _ _ _ hr4) (fun _ => ?_)
 refine JM rfl rfl ?_
 refine JL_cond (fun h5 => ?_) (fun h5 => ?_)
 ·refine JL_q (wants_some rfl rfl rfl h5) rfl (ex_move rfl) ?_
  refine JL_bnd fun r6 hr7 => ?_
  refine JL_call (wants_some rfl rfl rfl h5) rfl Tryz.call101 rfl (Ca_of0 fun w hh => c_slices_ContainsFunc_Simpl_Domino_impl_Domino _ w (fun _ hk => hk.elim) _ _ (hh.rd0 0 rfl) _ _ (Clo.mk (caps := []) Tryz.call102 (fun w_ hb_ v_ x_ r_ hrd_ hr_ => c_impl_ValidDominoes_1 nowhere w_ (fun _ hk => hk.elim) v_ x_ hrd_  _ hr_)) _ hr7) (fun _ => ?_)
  refine JL_q (wants_some rfl rfl rfl h5) rfl (ex_not rfl) ?_
  refine JL_q wn rfl (ex_pick_true rfl h5 rfl) ?_
  refine JA rfl rfl ?_
  refine JL_nt ?_
  refine J_ret ?_
  exact N_ret1 rfl (rv_tmp rfl) (fun w hh => ⟨(), rfl, hh.sel [] rfl⟩)
 ·refine JL_passed rfl rfl rfl h5 ?_
  refine JL_passed rfl rfl rfl h5 ?_
  refine JL_passed rfl rfl rfl h5 ?_
  refine JL_q wn rfl (ex_pick_false rfl h5 rfl) ?_
  refine JA rfl rfl ?_
  refine JL_nt ?_
  refine J_ret ?_
  exact N_ret1 rfl (rv_tmp rfl) (fun w hh => ⟨(), rfl, hh.sel [] rfl⟩)
set_option maxHeartbeats 40000000 in
theorem c_impl_rewritesToDominoes (A : Nat → Prop) (w : World) (hA : ∀ k, A k → k < w.heap.size) (v0_ : Value) (p0 : (List GRewrite)) (hp0 : Rd A w v0_ p0) (v1_ : Value) (p1 : (List Int)) (hp1 : Rd A w v1_ p1) (v2_ : Value) (p2 : (List Int)) (hp2 : Rd A w v2_ p2) (r : (List GDomino) × Int) (hr : F_impl_rewritesToDominoes p0 p1 p2 = some r) :
  Con Tryz.prog 44 [v0_, v1_, v2_] A w (fun x_ : Value × List Nat => .tuple #[x_.1, .int .i64 r.2]) (fun x_ => [.od 95 x_.1 r.1 x_.2]) := by
 refine Con_of (v := fun (r : (List GDomino) × Int) (x_ : Value × List Nat) => .tuple #[x_.1, .int .i64 r.2]) (fs := fun r x_ => [.od 95 x_.1 r.1 x_.2]) Tryz.func44 rfl Tryz.ntmps44 rfl ((((SH.start hA).start_rd rfl hp0).start_rd rfl hp1).start_rd rfl hp2) rfl ?_ hr
 unfold F_impl_rewritesToDominoes
 refine J_sr ?_
 refine JA rfl rfl ?_
 refine JA rfl rfl ?_
 refine JL_nt ?_
 refine J_sr ?_
 refine JL_st wn rfl (st_buildSlice (vs := [.int .i64 6]) ([6] : List Int) Tryz.underlying27 ti_2 zi_2 rfl rfl rfl (fun w hh => ⟨(Rd.mk_int _ _ _), trivial⟩)) (fun b1 => ?_)
 refine JA rfl rfl ?_
 refine JL_nt ?_
 refine J_sr ?_
 refine JM rfl rfl ?_
 refine JM rfl rfl ?_
 refine JM rfl rfl ?_
 refine JM rfl rfl ?_
 refine JL_ctx (fun w hh => hh.tokf 0 rfl rfl) ?_
 refine JL_st wn rfl (st_buildSlice (vs := [(.slice (some ⟨b1, 0, none⟩) 1 1), v1_, (.slice (some ⟨b1, 0, none⟩) 1 1)]) ([([6] : List Int), p1, ([6] : List Int)] : List (List Int)) Tryz.underlying39 ti_27 zi_27 rfl rfl rfl (fun w hh => ⟨(hh.rd 1 rfl), (hh.rd 3 rfl), (hh.rd 1 rfl), trivial⟩)) (fun b2 => ?_)
 refine JL_bnd fun r3 hr4 => ?_
 refine JL_call wn rfl Tryz.call45 rfl (Ca_self (fun _ => rfl) fun w hh => c_impl_joined _ w (fun _ hk => hk.elim) _ _ (hh.ow0 0 rfl) _ hr4) (fun x5 => ?_)
 refine JL_q wn rfl (ex_build si_95 rfl (.cons fi_95_0 rfl rfl (.cons fi_95_1 rfl rfl .nil)) (fun w hh => ⟨(hh.cv 3 rfl), (hh.cv_ow 0 rfl), trivial⟩)) ?_
 refine JL_ctx (fun w hh => hh.tokf 0 rfl rfl) ?_
 refine JL_st wn rfl (st_buildSlice_od (vs := [.agg #[(.slice (some ⟨b1, 0, none⟩) 1 1), x5]]) (B := ((((.slice (some ⟨b1, 0, none⟩) 1 1) : Value).ownBlock.toList ++ []) ++ (((x5 : Value).ownBlock.toList ++ []) ++ []))) ([(⟨([6] : List Int), r3⟩ : GDomino)] : List GDomino) [3, 0] Tryz.underlying47 ti_95 zi_95 rfl rfl rfl rfl rfl (fun w hh => (dwv_cons (GDomino.dw (hh.dw 3 rfl) (hh.dw 0 rfl)) dwv_nil))) (fun b6 => ?_)
 refine JA rfl rfl ?_
 refine JL_nt ?_
 refine J_seq ?_
 refine J_sr ?_
 refine JM rfl rfl ?_
 refine JL_nt ?_
 refine J_loop' (S := (List GDomino) × Int) (G := Value × List Nat) (F_impl_rewritesToDominoes_L1) (fun s7 g8 => [(0, v0_), (1, v1_), (2, v2_), (8, (.slice (some ⟨b1, 0, none⟩) 1 1)), (9, g8.1), (23, .int .i64 s7.2)]) (fun s7 g8 => [.rd v0_ p0, .rd v1_ p1, .rd v2_ p2, .rd (.slice (some ⟨b1, 0, none⟩) 1 1) ([6] : List Int), .od 95 g8.1 s7.1 g8.2]) (([(⟨([6] : List Int), r3⟩ : GDomino)] : List GDomino), 0) ((.slice (some ⟨b6, 0, none⟩) 1 1), ((((.slice (some ⟨b1, 0, none⟩) 1 1) : Value).ownBlock.toList ++ []) ++ (((x5 : Value).ownBlock.toList ++ []) ++ []))) ⟨rfl, rfl, rfl, rfl, rfl, rfl, trivial⟩ [8, 7, 6, 5, 0] rfl rfl (fun s7 g8 => ?_) (fun s7 g8 => ?_)
 ·obtain ⟨g8_0, g8_1⟩ := g8
  unfold F_impl_rewritesToDominoes_L1
  refine J_sr ?_
  refine JL_q wn rfl (ex_lss rfl rfl) ?_
  refine JL_nt ?_
  refine J_seq ?_
  refine J_if rfl (fun h9 => ?_) (fun h9 => ?_)
  ·refine J_skip ?_
   refine N_then ?_
   refine J_seq ?_
   refine J_block ?_
   refine J_sr ?_
   refine JM rfl rfl ?_
   refine JA rfl rfl ?_
   refine JL_nt ?_
   refine J_region ?_
   refine JM rfl rfl ?_
   refine JM rfl rfl ?_
   refine JL_st wn rfl (st_buildSlice (vs := [.int .i64 s7.2]) ([s7.2] : List Int) Tryz.underlying27 ti_2 zi_2 rfl rfl rfl (fun w hh => ⟨(Rd.mk_int _ _ _), trivial⟩)) (fun b10 => ?_)
   refine JM rfl rfl ?_
   refine JL_st wn rfl (st_buildSlice (vs := [.int .i64 s7.2]) ([s7.2] : List Int) Tryz.underlying27 ti_2 zi_2 rfl rfl rfl (fun w hh => ⟨(Rd.mk_int _ _ _), trivial⟩)) (fun b11 => ?_)
   refine JL_q wn rfl (ex_build si_95 rfl (.cons fi_95_0 rfl rfl (.cons fi_95_1 rfl rfl .nil)) (fun w hh => ⟨(hh.cv_ow 1 rfl), (hh.cv_ow 0 rfl), trivial⟩)) ?_
   refine JL_ctx (fun w hh => hh.tokf 1 rfl rfl) ?_
   refine JL_ctx (fun w hh => hh.tokf 1 rfl rfl) ?_
   refine JL_st wn rfl (st_buildSlice_od (vs := [.agg #[(.slice (some ⟨b10, 0, none⟩) 1 1), (.slice (some ⟨b11, 0, none⟩) 1 1)]]) (B := ((((.slice (some ⟨b10, 0, none⟩) 1 1) : Value).ownBlock.toList ++ []) ++ ((((.slice (some ⟨b11, 0, none⟩) 1 1) : Value).ownBlock.toList ++ []) ++ []))) ([(⟨([s7.2] : List Int), ([s7.2] : List Int)⟩ : GDomino)] : List GDomino) [1, 0] Tryz.underlying47 ti_95 zi_95 rfl rfl rfl rfl rfl (fun w hh => (dwv_cons (GDomino.dw (hh.dw 1 rfl) (hh.dw 0 rfl)) dwv_nil))) (fun b12 => ?_)
   refine JL_bnd fun z13 hz14 => ?_
   refine JL_st wn rfl (st_append_od 9 0 Tryz.underlying47 ti_95 zi_95 rfl bi_95 rfl rfl rfl rfl rfl rfl hz14) (fun v15 => ?_)
   refine JA rfl rfl ?_
   refine JL_nil ?_
   refine N_block ?_
   refine N_then ?_
   refine J_region ?_
   refine JL_q wn rfl (ex_add rfl rfl) ?_
   refine JM rfl rfl ?_
   refine JL_nil ?_
   exact N_next' (v15, (g8_1 ++ ((((.slice (some ⟨b10, 0, none⟩) 1 1) : Value).ownBlock.toList ++ []) ++ ((((.slice (some ⟨b11, 0, none⟩) 1 1) : Value).ownBlock.toList ++ []) ++ [])))) ⟨rfl, rfl, rfl, rfl, rfl, rfl, trivial⟩ [5, 6, 7, 8, 9] rfl rfl
  ·refine J_exit ?_
   refine N_then_exit ?_
   exact N_break' (g8_0, g8_1) ⟨rfl, rfl, rfl, rfl, rfl, rfl, trivial⟩ [0, 1, 2, 3, 4] rfl rfl
 ·obtain ⟨g8_0, g8_1⟩ := g8
  refine N_then ?_
  refine J_sr ?_
  refine JM rfl rfl ?_
  refine JM rfl rfl ?_
  refine JL_bnd fun r16 hr17 => ?_
  refine JL_call wn rfl Tryz.call82 rfl (Ca_self (fun _ => rfl) fun w hh => c_slices_Clone_Sint64_int64 _ w (fun _ hk => hk.elim) _ _ (hh.rd0 3 rfl) _ hr17) (fun x18 => ?_)
  refine JM rfl rfl ?_
  refine JL_bnd fun r19 hr20 => ?_
  refine JL_call wn rfl Tryz.call82 rfl (Ca_self (fun _ => rfl) fun w hh => c_slices_Clone_Sint64_int64 _ w (fun _ hk => hk.elim) _ _ (hh.rd0 4 rfl) _ hr20) (fun x21 => ?_)
  refine JL_q wn rfl (ex_build si_95 rfl (.cons fi_95_0 rfl rfl (.cons fi_95_1 rfl rfl .nil)) (fun w hh => ⟨(hh.cv_ow 1 rfl), (hh.cv_ow 0 rfl), trivial⟩)) ?_
  refine JL_ctx (fun w hh => hh.tokf 1 rfl rfl) ?_
  refine JL_ctx (fun w hh => hh.tokf 1 rfl rfl) ?_
  refine JL_st wn rfl (st_buildSlice_od (vs := [.agg #[x18, x21]]) (B := (((x18 : Value).ownBlock.toList ++ []) ++ (((x21 : Value).ownBlock.toList ++ []) ++ []))) ([(⟨r16, r19⟩ : GDomino)] : List GDomino) [1, 0] Tryz.underlying47 ti_95 zi_95 rfl rfl rfl rfl rfl (fun w hh => (dwv_cons (GDomino.dw (hh.dw 1 rfl) (hh.dw 0 rfl)) dwv_nil))) (fun b22 => ?_)
  refine JL_bnd fun z23 hz24 => ?_
  refine JL_st wn rfl (st_append_od 9 0 Tryz.underlying47 ti_95 zi_95 rfl bi_95 rfl rfl rfl rfl rfl rfl hz24) (fun v25 => ?_)
  refine JA rfl rfl ?_
  refine JL_nt ?_
  refine J_sr ?_
  refine JM rfl rfl ?_
  refine JM rfl rfl ?_
  refine JL_st wn rfl (st_buildSlice (vs := [v1_, v2_]) ([p1, p2] : List (List Int)) Tryz.underlying39 ti_27 zi_27 rfl rfl rfl (fun w hh => ⟨(hh.rd 6 rfl), (hh.rd 7 rfl), trivial⟩)) (fun b26 => ?_)
  refine JL_bnd fun r27 hr28 => ?_
  refine JL_call wn rfl Tryz.call45 rfl (Ca_self (fun _ => rfl) fun w hh => c_impl_joined _ w (fun _ hk => hk.elim) _ _ (hh.ow0 0 rfl) _ hr28) (fun x29 => ?_)
  refine JL_bnd fun r30 hr31 => ?_
  refine JL_call wn rfl Tryz.call81 rfl (Ca_of0 fun w hh => c_impl_allWithin _ w (fun _ hk => hk.elim) _ _ (hh.ow0 0 rfl) _ _ _ hr31) (fun _ => ?_)
  refine JA rfl rfl ?_
  refine JL_nt ?_
  refine J_seq ?_
  refine J_sr ?_
  refine JM rfl rfl ?_
  refine JL_q wn rfl (ex_len_rd 7 Tryz.underlying34 rfl rfl) ?_
  refine JM rfl rfl ?_
  refine JL_nt ?_
  refine J_loop' (S := (List GDomino) × Bool × Int) (G := Value × List Nat) (F_impl_rewritesToDominoes_L2 p0) (fun s32 g33 => [(2, v2_), (9, g33.1), (11, .bool s32.2.1), (48, v0_), (49, .int .i64 (p0.length : Int)), (50, .int .i64 s32.2.2)]) (fun s32 g33 => [.rd v2_ p2, .od 95 g33.1 s32.1 g33.2, .rd v0_ p0]) (z23, r30, 0) (v25, (g8_1 ++ (((x18 : Value).ownBlock.toList ++ []) ++ (((x21 : Value).ownBlock.toList ++ []) ++ [])))) ⟨rfl, rfl, rfl, rfl, rfl, rfl, trivial⟩ [9, 11, 7] rfl rfl (fun s32 g33 => ?_) (fun s32 g33 => ?_)
  ·obtain ⟨g33_0, g33_1⟩ := g33
   unfold F_impl_rewritesToDominoes_L2
   refine J_sr ?_
   refine JL_q wn rfl (ex_lss rfl rfl) ?_
   refine JL_nt ?_
   refine J_seq ?_
   refine J_if rfl (fun h34 => ?_) (fun h34 => ?_)
   ·refine J_skip ?_
    refine N_then ?_
    refine J_seq ?_
    refine J_block ?_
    refine J_sr ?_
    refine JL_bnd fun y35 hy36 => ?_
    refine JL_st wn rfl (st_index 2 Tryz.underlying34 ti_88 rfl rfl rfl hy36) (fun q37 => ?_)
    refine JL_st wn rfl (st_load_pt_o 0 (GRewrite.opens _) ti_88 rfl rfl) (fun v38 => ?_)
    refine JL_st wn rfl (st_alloc zi_88 rfl) (fun b39 => ?_)
    refine JL_sk wn (sk_store_bx' 0 ti_88 rfl rfl (fun w hh => (cv_aggs ⟨(hh.cv 1 rfl), (hh.cv 2 rfl), trivial⟩)) rfl rfl rfl rfl) ?_
    refine JL_nt ?_
    refine J_sr ?_
    refine JM rfl rfl ?_
    refine JM rfl rfl ?_
    refine JL_cond (fun h40 => ?_) (fun h40 => ?_)
    ·refine JL_q (wants_some rfl rfl rfl h40) rfl (ex_fieldAddr fi_88_0 rfl rfl) ?_
     refine JL_q (wants_some rfl rfl rfl h40) rfl (ex_load_bx 0 ti_27 rfl rfl rfl) ?_
     refine JL_q (wants_some rfl rfl rfl h40) rfl (ex_fieldAddr fi_88_1 rfl rfl) ?_
     refine JL_q (wants_some rfl rfl rfl h40) rfl (ex_load_bx 0 ti_27 rfl rfl rfl) ?_
     refine JL_st (wants_some rfl rfl rfl h40) rfl (st_buildSlice (vs := [v38.1, v38.2]) ([y35.From, y35.To] : List (List Int)) Tryz.underlying39 ti_27 zi_27 rfl rfl rfl (fun w hh => ⟨(hh.rd 1 rfl), (hh.rd 2 rfl), trivial⟩)) (fun b41 => ?_)
     refine JL_bnd fun r42 hr43 => ?_
     refine JL_call (wants_some rfl rfl rfl h40) rfl Tryz.call45 rfl (Ca_self (fun _ => rfl) fun w hh => c_impl_joined _ w (fun _ hk => hk.elim) _ _ (hh.ow0 0 rfl) _ hr43) (fun x44 => ?_)
     refine JL_bnd fun r45 hr46 => ?_
     refine JL_call (wants_some rfl rfl rfl h40) rfl Tryz.call81 rfl (Ca_of0 fun w hh => c_impl_allWithin _ w (fun _ hk => hk.elim) _ _ (hh.ow0 0 rfl) _ _ _ hr46) (fun _ => ?_)
     refine JL_q wn rfl (ex_pick_true rfl h40 rfl) ?_
     refine JA rfl rfl ?_
     refine JL_nt ?_
     refine J_draw [7] (by kernel_rfl) ?_
     refine JP_take (i := 0) [0, 1, 2, 3, 4, 5, 6, 8] [7] rfl (by kernel_rfl) (by kernel_rfl) (by kernel_rfl) rfl rfl wn rfl (ex_move rfl) ?_
     refine JP_take (i := 1) [0, 1, 2, 3, 4, 5, 6, 8] [7] rfl (by kernel_rfl) (by kernel_rfl) (by kernel_rfl) rfl rfl wn rfl (ex_fieldAddr fi_88_0 rfl rfl) ?_
     refine JP_take (i := 2) [0, 1, 2, 3, 4, 5, 6, 8] [7] rfl (by kernel_rfl) (by kernel_rfl) (by kernel_rfl) rfl rfl wn rfl (ex_load_bx 2 ti_27 rfl rfl rfl) ?_
     refine JP_take (i := 4) [0, 1, 2, 3, 4, 5, 6, 8] [7] rfl (by kernel_rfl) (by kernel_rfl) (by kernel_rfl) rfl rfl wn rfl (ex_fieldAddr fi_88_1 rfl rfl) ?_
     refine JP_take (i := 5) [0, 1, 2, 3, 4, 5, 6, 8] [7] rfl (by kernel_rfl) (by kernel_rfl) (by kernel_rfl) rfl rfl wn rfl (ex_load_bx 2 ti_27 rfl rfl rfl) ?_
     refine JP_go [0, 1, 2, 3, 4, 5, 6, 8] [7] rfl rfl rfl (fun w48 h1_49 hp47 => ?_)
     refine JD_bnd fun r50 hr51 => ?_
     refine JD_one (i := 3) (by kernel_rfl) ?_
     refine JO_call rfl wn rfl Tryz.call82 rfl (Ca_self (fun _ => rfl) fun w hh => c_slices_Clone_Sint64_int64 _ w (fun _ hk => hk.elim) _ _ (hh.rd0 3 rfl) _ hr51) (fun x52 => ?_)
     refine JD_bnd fun r53 hr54 => ?_
     refine JD_one (i := 6) (by kernel_rfl) ?_
     refine JO_call rfl wn rfl Tryz.call82 rfl (Ca_self (fun _ => rfl) fun w hh => c_slices_Clone_Sint64_int64 _ w (fun _ hk => hk.elim) _ _ (hh.rd0 5 rfl) _ hr54) (fun x55 => ?_)
     refine JD_one (i := 7) (by kernel_rfl) ?_
     refine JO_q rfl wn rfl (ex_build si_95 rfl (.cons fi_95_0 rfl rfl (.cons fi_95_1 rfl rfl .nil)) (fun w hh => ⟨(hh.cv_ow 1 rfl), (hh.cv_ow 0 rfl), trivial⟩)) ?_
     refine JD_one (i := 8) (by kernel_rfl) ?_
     refine JO_ctx (fun w hh => hh.tokf 1 rfl rfl) (tokf_owns (i := 1) rfl) ?_
     refine JO_ctx (fun w hh => hh.tokf 1 rfl rfl) (tokf_owns (i := 1) rfl) ?_
     refine JO_st rfl wn rfl (st_buildSlice_od (vs := [.agg #[x52, x55]]) (B := (((x52 : Value).ownBlock.toList ++ []) ++ (((x55 : Value).ownBlock.toList ++ []) ++ []))) ([(⟨r50, r53⟩ : GDomino)] : List GDomino) [1, 0] Tryz.underlying47 ti_95 zi_95 rfl rfl rfl rfl rfl (fun w hh => (dwv_cons (GDomino.dw (hh.dw 1 rfl) (hh.dw 0 rfl)) dwv_nil))) (fun _ hk => nomatch hk) (fun b56 => ?_)
     refine JD_bnd fun z57 hz58 => ?_
     refine JD_one (i := 9) (by kernel_rfl) ?_
     refine JO_st rfl wn rfl (st_append_od 12 0 Tryz.underlying47 ti_95 zi_95 rfl bi_95 rfl rfl rfl rfl rfl rfl hz58) (sub_od 0 rfl) (fun v59 => ?_)
     refine JD_take (i := 10) hp47 rfl (by kernel_rfl) (by kernel_rfl) (by kernel_rfl) wn rfl (ex_assign rfl) ?_
     refine JD_done (by kernel_rfl) ?_
     refine N_block ?_
     refine N_then ?_
     refine J_region ?_
     refine JL_q wn rfl (ex_add rfl rfl) ?_
     refine JM rfl rfl ?_
     refine JL_nil ?_
     exact N_next' (v59, (g33_1 ++ (((x52 : Value).ownBlock.toList ++ []) ++ (((x55 : Value).ownBlock.toList ++ []) ++ [])))) ⟨rfl, rfl, rfl, rfl, rfl, rfl, trivial⟩ [11, 12, 13] rfl rfl
    ·refine JL_passed rfl rfl rfl h40 ?_
     refine JL_passed rfl rfl rfl h40 ?_
     refine JL_passed rfl rfl rfl h40 ?_
     refine JL_passed rfl rfl rfl h40 ?_
     refine JL_passed rfl rfl rfl h40 ?_
     refine JL_passed rfl rfl rfl h40 ?_
     refine JL_passed rfl rfl rfl h40 ?_
     refine JL_q wn rfl (ex_pick_false rfl h40 rfl) ?_
     refine JA rfl rfl ?_
     refine JL_nt ?_
     refine J_draw [5] (by kernel_rfl) ?_
     refine JP_take (i := 0) [0, 1, 2, 3, 4, 6] [5] rfl (by kernel_rfl) (by kernel_rfl) (by kernel_rfl) rfl rfl wn rfl (ex_move rfl) ?_
     refine JP_take (i := 1) [0, 1, 2, 3, 4, 6] [5] rfl (by kernel_rfl) (by kernel_rfl) (by kernel_rfl) rfl rfl wn rfl (ex_fieldAddr fi_88_0 rfl rfl) ?_
     refine JP_take (i := 2) [0, 1, 2, 3, 4, 6] [5] rfl (by kernel_rfl) (by kernel_rfl) (by kernel_rfl) rfl rfl wn rfl (ex_load_bx 0 ti_27 rfl rfl rfl) ?_
     refine JP_take (i := 4) [0, 1, 2, 3, 4, 6] [5] rfl (by kernel_rfl) (by kernel_rfl) (by kernel_rfl) rfl rfl wn rfl (ex_fieldAddr fi_88_1 rfl rfl) ?_
     refine JP_take (i := 5) [0, 1, 2, 3, 4, 6] [5] rfl (by kernel_rfl) (by kernel_rfl) (by kernel_rfl) rfl rfl wn rfl (ex_load_bx 0 ti_27 rfl rfl rfl) ?_
     refine JP_go [0, 1, 2, 3, 4, 6] [5] rfl rfl rfl (fun w61 h1_62 hp60 => ?_)
     refine JD_bnd fun r63 hr64 => ?_
     refine JD_one (i := 3) (by kernel_rfl) ?_
     refine JO_call rfl wn rfl Tryz.call82 rfl (Ca_self (fun _ => rfl) fun w hh => c_slices_Clone_Sint64_int64 _ w (fun _ hk => hk.elim) _ _ (hh.rd0 1 rfl) _ hr64) (fun x65 => ?_)
     refine JD_bnd fun r66 hr67 => ?_
     refine JD_one (i := 6) (by kernel_rfl) ?_
     refine JO_call rfl wn rfl Tryz.call82 rfl (Ca_self (fun _ => rfl) fun w hh => c_slices_Clone_Sint64_int64 _ w (fun _ hk => hk.elim) _ _ (hh.rd0 3 rfl) _ hr67) (fun x68 => ?_)
     refine JD_one (i := 7) (by kernel_rfl) ?_
     refine JO_q rfl wn rfl (ex_build si_95 rfl (.cons fi_95_0 rfl rfl (.cons fi_95_1 rfl rfl .nil)) (fun w hh => ⟨(hh.cv_ow 1 rfl), (hh.cv_ow 0 rfl), trivial⟩)) ?_
     refine JD_one (i := 8) (by kernel_rfl) ?_
     refine JO_ctx (fun w hh => hh.tokf 1 rfl rfl) (tokf_owns (i := 1) rfl) ?_
     refine JO_ctx (fun w hh => hh.tokf 1 rfl rfl) (tokf_owns (i := 1) rfl) ?_
     refine JO_st rfl wn rfl (st_buildSlice_od (vs := [.agg #[x65, x68]]) (B := (((x65 : Value).ownBlock.toList ++ []) ++ (((x68 : Value).ownBlock.toList ++ []) ++ []))) ([(⟨r63, r66⟩ : GDomino)] : List GDomino) [1, 0] Tryz.underlying47 ti_95 zi_95 rfl rfl rfl rfl rfl (fun w hh => (dwv_cons (GDomino.dw (hh.dw 1 rfl) (hh.dw 0 rfl)) dwv_nil))) (fun _ hk => nomatch hk) (fun b69 => ?_)
     refine JD_bnd fun z70 hz71 => ?_
     refine JD_one (i := 9) (by kernel_rfl) ?_
     refine JO_st rfl wn rfl (st_append_od 10 0 Tryz.underlying47 ti_95 zi_95 rfl bi_95 rfl rfl rfl rfl rfl rfl hz71) (sub_od 0 rfl) (fun v72 => ?_)
     refine JD_take (i := 10) hp60 rfl (by kernel_rfl) (by kernel_rfl) (by kernel_rfl) wn rfl (ex_assign rfl) ?_
     refine JD_done (by kernel_rfl) ?_
     refine N_block ?_
     refine N_then ?_
     refine J_region ?_
     refine JL_q wn rfl (ex_add rfl rfl) ?_
     refine JM rfl rfl ?_
     refine JL_nil ?_
     exact N_next' (v72, (g33_1 ++ (((x65 : Value).ownBlock.toList ++ []) ++ (((x68 : Value).ownBlock.toList ++ []) ++ [])))) ⟨rfl, rfl, rfl, rfl, rfl, rfl, trivial⟩ [9, 10, 11] rfl rfl
   ·refine J_exit ?_
    refine N_then_exit ?_
    exact N_break' (g33_0, g33_1) ⟨rfl, rfl, rfl, rfl, rfl, rfl, trivial⟩ [0, 1, 2] rfl rfl
  ·obtain ⟨g33_0, g33_1⟩ := g33
   refine N_then ?_
   refine J_sr ?_
   refine JM rfl rfl ?_
   refine JM rfl rfl ?_
   refine JL_st wn rfl (st_buildSlice (vs := [.int .i64 6, .int .i64 7]) ([6, 7] : List Int) Tryz.underlying27 ti_2 zi_2 rfl rfl rfl (fun w hh => ⟨(Rd.mk_int _ _ _), (Rd.mk_int _ _ _), trivial⟩)) (fun b73 => ?_)
   refine JL_ctx (fun w hh => hh.tokf 0 rfl rfl) ?_
   refine JL_st wn rfl (st_buildSlice (vs := [v2_, (.slice (some ⟨b73, 0, none⟩) 2 2)]) ([p2, ([6, 7] : List Int)] : List (List Int)) Tryz.underlying39 ti_27 zi_27 rfl rfl rfl (fun w hh => ⟨(hh.rd 2 rfl), (hh.rd 1 rfl), trivial⟩)) (fun b74 => ?_)
   refine JL_bnd fun r75 hr76 => ?_
   refine JL_call wn rfl Tryz.call45 rfl (Ca_self (fun _ => rfl) fun w hh => c_impl_joined _ w (fun _ hk => hk.elim) _ _ (hh.ow0 0 rfl) _ hr76) (fun x77 => ?_)
   refine JL_st wn rfl (st_buildSlice (vs := [.int .i64 7]) ([7] : List Int) Tryz.underlying27 ti_2 zi_2 rfl rfl rfl (fun w hh => ⟨(Rd.mk_int _ _ _), trivial⟩)) (fun b78 => ?_)
   refine JL_q wn rfl (ex_build si_95 rfl (.cons fi_95_0 rfl rfl (.cons fi_95_1 rfl rfl .nil)) (fun w hh => ⟨(hh.cv_ow 1 rfl), (hh.cv_ow 0 rfl), trivial⟩)) ?_
   refine JL_ctx (fun w hh => hh.tokf 1 rfl rfl) ?_
   refine JL_ctx (fun w hh => hh.tokf 1 rfl rfl) ?_
   refine JL_st wn rfl (st_buildSlice_od (vs := [.agg #[x77, (.slice (some ⟨b78, 0, none⟩) 1 1)]]) (B := (((x77 : Value).ownBlock.toList ++ []) ++ ((((.slice (some ⟨b78, 0, none⟩) 1 1) : Value).ownBlock.toList ++ []) ++ []))) ([(⟨r75, ([7] : List Int)⟩ : GDomino)] : List GDomino) [1, 0] Tryz.underlying47 ti_95 zi_95 rfl rfl rfl rfl rfl (fun w hh => (dwv_cons (GDomino.dw (hh.dw 1 rfl) (hh.dw 0 rfl)) dwv_nil))) (fun b79 => ?_)
   refine JL_bnd fun z80 hz81 => ?_
   refine JL_st wn rfl (st_append_od 9 0 Tryz.underlying47 ti_95 zi_95 rfl bi_95 rfl rfl rfl rfl rfl rfl hz81) (fun v82 => ?_)
   refine JA rfl rfl ?_
   refine JL_nt ?_
   refine J_seq ?_
   refine J_block ?_
   refine J_sr ?_
   refine JM rfl rfl ?_
   refine JL_q wn rfl (ex_not rfl) ?_
   refine JA rfl rfl ?_
   refine JL_nt ?_
   refine J_if rfl (fun h83 => ?_) (fun h83 => ?_)
   ·refine J_sr ?_
    refine JA rfl rfl ?_
    refine JA rfl rfl ?_
    refine JL_nt ?_
    refine J_ret ?_
    refine N_block_ret ?_
    refine N_then_ret ?_
    refine N_ctx (fun w hh => SH.od_nil (α := GDomino) 95 hh) ?_
    exact N_ret2 rfl (rv_tmp rfl) (rv_tmp rfl) (fun w hh => ⟨((.slice none 0 0 : Value), ([] : List Nat)), rfl, hh.sel [0] rfl⟩)
   ·refine J_sr ?_
    refine JM rfl rfl ?_
    refine JL_bnd fun r84 hr85 => ?_
    refine JL_call wn rfl Tryz.call57 rfl (Ca_of0 fun w hh => c_impl_ValidDominoes _ w (fun _ hk => hk.elim) _ _ (hh.od0 9 rfl) _ hr85) (fun _ => ?_)
    refine JL_q wn rfl (ex_not rfl) ?_
    refine JA rfl rfl ?_
    refine JL_nt ?_
    refine J_if rfl (fun h86 => ?_) (fun h86 => ?_)
    ·refine J_sr ?_
     refine JA rfl rfl ?_
     refine JA rfl rfl ?_
     refine JL_nt ?_
     refine J_ret ?_
     refine N_block_ret ?_
     refine N_then_ret ?_
     refine N_ctx (fun w hh => SH.od_nil (α := GDomino) 95 hh) ?_
     exact N_ret2 rfl (rv_tmp rfl) (rv_tmp rfl) (fun w hh => ⟨((.slice none 0 0 : Value), ([] : List Nat)), rfl, hh.sel [0] rfl⟩)
    ·refine J_skip ?_
     refine N_block ?_
     refine N_then ?_
     refine J_sr ?_
     refine JM rfl rfl ?_
     refine JA rfl rfl ?_
     refine JA rfl rfl ?_
     refine JL_nt ?_
     refine J_ret ?_
     exact N_ret2 rfl (rv_tmp rfl) (rv_tmp rfl) (fun w hh => ⟨(v82, (g33_1 ++ (((x77 : Value).ownBlock.toList ++ []) ++ ((((.slice (some ⟨b78, 0, none⟩) 1 1) : Value).ownBlock.toList ++ []) ++ [])))), rfl, hh.sel [9] rfl⟩)
set_option maxHeartbeats 40000000 in
theorem c_impl_RewritesToDominoes (A : Nat → Prop) (w : World) (hA : ∀ k, A k → k < w.heap.size) (v0_ : Value) (p0 : (List GRewrite)) (hp0 : Rd A w v0_ p0) (v1_ : Value) (p1 : (List Int)) (hp1 : Rd A w v1_ p1) (v2_ : Value) (p2 : (List Int)) (hp2 : Rd A w v2_ p2) (r : (List GDomino) × Int) (hr : F_impl_RewritesToDominoes p0 p1 p2 = some r) :
  Con Tryz.prog 13 [v0_, v1_, v2_] A w (fun x_ : Value × List Nat => .tuple #[x_.1, .int .i64 r.2]) (fun x_ => [.od 95 x_.1 r.1 x_.2]) := by
 refine Con_of (v := fun (r : (List GDomino) × Int) (x_ : Value × List Nat) => .tuple #[x_.1, .int .i64 r.2]) (fs := fun r x_ => [.od 95 x_.1 r.1 x_.2]) Tryz.func13 rfl Tryz.ntmps13 rfl ((((SH.start hA).start_rd rfl hp0).start_rd rfl hp1).start_rd rfl hp2) rfl ?_ hr
 unfold F_impl_RewritesToDominoes
 refine J_sr ?_
 refine JA rfl rfl ?_
 refine JA rfl rfl ?_
 refine JL_nt ?_
 refine J_seq ?_
 refine J_sr ?_
 refine JM rfl rfl ?_
 refine JL_bnd fun r1 hr2 => ?_
 refine JL_call wn rfl Tryz.call39 rfl (Ca_of0 fun w hh => c_impl_ValidRewrites _ w (fun _ hk => hk.elim) _ _ (hh.rd0 2 rfl) _ hr2) (fun _ => ?_)
 refine JL_q wn rfl (ex_not rfl) ?_
 refine JM rfl rfl ?_
 refine JL_cond (fun h3 => ?_) (fun h3 => ?_)
 ·refine JL_passed rfl rfl rfl h3 ?_
  refine JL_passed rfl rfl rfl h3 ?_
  refine JL_passed rfl rfl rfl h3 ?_
  refine JL_passed rfl rfl rfl h3 ?_
  refine JL_passed rfl rfl rfl h3 ?_
  refine JL_q wn rfl (ex_pick_true rfl h3 rfl) ?_
  refine JL_nt ?_
  refine J_if_true rfl rfl ?_
  refine J_sr ?_
  refine JA rfl rfl ?_
  refine JA rfl rfl ?_
  refine JL_nt ?_
  refine J_ret ?_
  refine N_then_ret ?_
  refine N_ctx (fun w hh => SH.od_nil (α := GDomino) 95 hh) ?_
  exact N_ret2 rfl (rv_tmp rfl) (rv_tmp rfl) (fun w hh => ⟨((.slice none 0 0 : Value), ([] : List Nat)), rfl, hh.sel [0] rfl⟩)
 ·refine JL_q (wants_some rfl rfl rfl h3) rfl (ex_move rfl) ?_
  refine JL_q (wants_some rfl rfl rfl h3) rfl (ex_move rfl) ?_
  refine JL_st (wants_some rfl rfl rfl h3) rfl (st_buildSlice (vs := [v1_, v2_]) ([p1, p2] : List (List Int)) Tryz.underlying39 ti_27 zi_27 rfl rfl rfl (fun w hh => ⟨(hh.rd 1 rfl), (hh.rd 0 rfl), trivial⟩)) (fun b4 => ?_)
  refine JL_bnd fun r5 hr6 => ?_
  refine JL_call (wants_some rfl rfl rfl h3) rfl Tryz.call43 rfl (Ca_of0 fun w hh => c_impl_areWords _ w (fun _ hk => hk.elim) _ _ (hh.ow0 0 rfl) _ hr6) (fun _ => ?_)
  refine JL_q (wants_some rfl rfl rfl h3) rfl (ex_not rfl) ?_
  refine JL_q wn rfl (ex_pick_false rfl h3 rfl) ?_
  refine JL_nt ?_
  refine J_if rfl (fun h7 => ?_) (fun h7 => ?_)
  ·refine J_sr ?_
   refine JA rfl rfl ?_
   refine JA rfl rfl ?_
   refine JL_nt ?_
   refine J_ret ?_
   refine N_then_ret ?_
   refine N_ctx (fun w hh => SH.od_nil (α := GDomino) 95 hh) ?_
   exact N_ret2 rfl (rv_tmp rfl) (rv_tmp rfl) (fun w hh => ⟨((.slice none 0 0 : Value), ([] : List Nat)), rfl, hh.sel [0] rfl⟩)
  ·refine J_skip ?_
   refine N_then ?_
   refine J_sr ?_
   refine JM rfl rfl ?_
   refine JM rfl rfl ?_
   refine JM rfl rfl ?_
   refine JL_bnd fun r8 hr9 => ?_
   refine JL_call wn rfl Tryz.call44 rfl (Ca_self (fun _ => rfl) fun w hh => c_impl_rewritesToDominoes _ w (fun _ hk => hk.elim) _ _ (hh.rd0 3 rfl) _ _ (hh.rd0 2 rfl) _ _ (hh.rd0 1 rfl) _ hr9) (fun x10 => ?_)
   obtain ⟨x10_0, x10_1⟩ := x10
   refine JL_q wn rfl (ex_extract rfl rfl) ?_
   refine JL_q wn rfl (ex_extract rfl rfl) ?_
   refine JA rfl rfl ?_
   refine JA rfl rfl ?_
   refine JL_nt ?_
   refine J_ret ?_
   exact N_ret2 rfl (rv_tmp rfl) (rv_tmp rfl) (fun w hh => ⟨(x10_0, x10_1), rfl, hh.sel [0] rfl⟩)
set_option maxHeartbeats 40000000 in
theorem c_impl_moved (A : Nat → Prop) (w : World) (hA : ∀ k, A k → k < w.heap.size) (v0_ : Value) (p0 : (List Int)) (hp0 : Rd A w v0_ p0) (p1 : Int) (r : (List Int)) (hr : F_impl_moved p0 p1 = some r) :
  Con Tryz.prog 46 [v0_, .int .i64 p1] A w (fun x_ : Value => x_) (fun x_ => [.ow 2 x_ r]) := by
 refine Con_of (v := fun (r : (List Int)) (x_ : Value) => x_) (fs := fun r x_ => [.ow 2 x_ r]) Tryz.func46 rfl Tryz.ntmps46 rfl ((SH.start hA).start_rd rfl hp0) rfl ?_ hr
 unfold F_impl_moved
 refine J_sr ?_
 refine JA rfl rfl ?_
 refine JL_nt ?_
 refine J_sr ?_
 refine JL_st wn rfl (st_buildSlice (vs := []) ([] : List Int) Tryz.underlying27 ti_2 zi_2 rfl rfl rfl (fun w hh => trivial)) (fun b1 => ?_)
 refine JA rfl rfl ?_
 refine JL_nt ?_
 refine J_seq ?_
 refine J_sr ?_
 refine JM rfl rfl ?_
 refine JL_q wn rfl (ex_len_rd 1 Tryz.underlying27 rfl rfl) ?_
 refine JM rfl rfl ?_
 refine JL_nt ?_
 refine J_loop' (S := (List Int) × Int) (G := Value) (F_impl_moved_L1 p0 p1) (fun s2 g3 => [(1, .int .i64 p1), (5, g3), (9, v0_), (10, .int .i64 (p0.length : Int)), (11, .int .i64 s2.2)]) (fun s2 g3 => [.ow 2 g3 s2.1, .rd v0_ p0]) (([] : List Int), 0) (.slice (some ⟨b1, 0, none⟩) 0 0) ⟨rfl, rfl, rfl, rfl, rfl, trivial⟩ [0, 1] rfl rfl (fun s2 g3 => ?_) (fun s2 g3 => ?_)
 ·unfold F_impl_moved_L1
  refine J_sr ?_
  refine JL_q wn rfl (ex_lss rfl rfl) ?_
  refine JL_nt ?_
  refine J_seq ?_
  refine J_if rfl (fun h4 => ?_) (fun h4 => ?_)
  ·refine J_skip ?_
   refine N_then ?_
   refine J_seq ?_
   refine J_block ?_
   refine J_sr ?_
   refine JL_bnd fun y5 hy6 => ?_
   refine JL_st wn rfl (st_index 1 Tryz.underlying27 ti_2 rfl rfl rfl hy6) (fun q7 => ?_)
   refine JL_st wn rfl (st_load_pt_o 0 (opens_int _) ti_2 rfl rfl) (fun _ => ?_)
   refine JA rfl rfl ?_
   refine JL_nt ?_
   refine J_region ?_
   refine JM rfl rfl ?_
   refine JM rfl rfl ?_
   refine JM rfl rfl ?_
   refine JL_q wn rfl (ex_add rfl rfl) ?_
   refine JL_st wn rfl (st_buildSlice (vs := [.int .i64 (w64 (y5 + p1))]) ([(w64 (y5 + p1))] : List Int) Tryz.underlying27 ti_2 zi_2 rfl rfl rfl (fun w hh => ⟨(Rd.mk_int _ _ _), trivial⟩)) (fun b9 => ?_)
   refine JL_bnd fun z10 hz11 => ?_
   refine JL_st wn rfl (st_append 2 Tryz.underlying27 ti_2 zi_2 rfl bi_2 rfl rfl rfl rfl (fun w hh => hh.src_ow 0 rfl) hz11) (fun v12 => ?_)
   refine JA rfl rfl ?_
   refine JL_nil ?_
   refine N_block ?_
   refine N_then ?_
   refine J_region ?_
   refine JL_q wn rfl (ex_add rfl rfl) ?_
   refine JM rfl rfl ?_
   refine JL_nil ?_
   exact N_next' v12 ⟨rfl, rfl, rfl, rfl, rfl, trivial⟩ [2, 3] rfl rfl
  ·refine J_exit ?_
   refine N_then_exit ?_
   exact N_break' g3 ⟨rfl, rfl, rfl, rfl, rfl, trivial⟩ [0, 1] rfl rfl
 ·refine N_then ?_
  refine J_sr ?_
  refine JM rfl rfl ?_
  refine JA rfl rfl ?_
  refine JL_nt ?_
  refine J_ret ?_
  exact N_ret1 rfl (rv_tmp rfl) (fun w hh => ⟨g3, rfl, hh.sel [0] rfl⟩)
set_option maxHeartbeats 40000000 in
theorem c_impl_shortMatch (A : Nat → Prop) (w : World) (hA : ∀ k, A k → k < w.heap.size) (v0_ : Value) (p0 : (List Int)) (hp0 : Rd A w v0_ p0) (r : (List Int) × Int) (hr : F_impl_shortMatch p0 = some r) :
  Con Tryz.prog 48 [v0_] A w (fun x_ : Value => .tuple #[x_, .int .i64 r.2]) (fun x_ => [.pr (Sub v0_ p0 x_ r.1)]) := by
 refine Con_of (v := fun (r : (List Int) × Int) (x_ : Value) => .tuple #[x_, .int .i64 r.2]) (fs := fun r x_ => [.pr (Sub v0_ p0 x_ r.1)]) Tryz.func48 rfl Tryz.ntmps48 rfl ((SH.start hA).start_rd rfl hp0) rfl ?_ hr
 unfold F_impl_shortMatch
 refine J_sr ?_
 refine JA rfl rfl ?_
 refine JA rfl rfl ?_
 refine JL_nt ?_
 refine J_seq ?_
 refine J_sr ?_
 refine JM rfl rfl ?_
 refine JL_q wn rfl (ex_len_rd 0 Tryz.underlying27 rfl rfl) ?_
 refine JL_q wn rfl (ex_gtr rfl rfl) ?_
 refine JL_nt ?_
 refine J_if rfl (fun h1 => ?_) (fun h1 => ?_)
 ·refine J_sr ?_
  refine JA rfl rfl ?_
  refine JA rfl rfl ?_
  refine JL_nt ?_
  refine J_ret ?_
  refine N_then_ret ?_
  refine N_ctx (fun w hh => hh.cons_pr (p := Sub v0_ p0 (.slice none 0 0) ([] : (List Int))) Sub.nil) ?_
  exact N_ret2 rfl (rv_tmp rfl) (rv_tmp rfl) (fun w hh => ⟨(.slice none 0 0 : Value), rfl, hh.sel [0] rfl⟩)
 ·refine J_skip ?_
  refine N_then ?_
  refine J_sr ?_
  refine JM rfl rfl ?_
  refine JA rfl rfl ?_
  refine JA rfl rfl ?_
  refine JL_nt ?_
  refine J_ret ?_
  refine N_ctx (fun w hh => hh.cons_pr (p := Sub v0_ p0 v0_ p0) Sub.refl) ?_
  exact N_ret2 rfl (rv_tmp rfl) (rv_tmp rfl) (fun w hh => ⟨v0_, rfl, hh.sel [0] rfl⟩)
set_option maxHeartbeats 40000000 in
theorem c_impl_MatchOfDerivation (A : Nat → Prop) (w : World) (hA : ∀ k, A k → k < w.heap.size) (v0_ : Value) (p0 : (List GRewrite)) (hp0 : Rd A w v0_ p0) (v1_ : Value) (p1 : (List Int)) (hp1 : Rd A w v1_ p1) (v2_ : Value) (p2 : (List Int)) (hp2 : Rd A w v2_ p2) (v3_ : Value) (p3 : (List (List Int))) (hp3 : Rd A w v3_ p3) (r : (List Int) × Int) (hr : F_impl_MatchOfDerivation p0 p1 p2 p3 = some r) :
  Con Tryz.prog 14 [v0_, v1_, v2_, v3_] A w (fun x_ : Value × List Nat => .tuple #[x_.1, .int .i64 r.2]) (fun x_ => [.tkn x_.1 r.1 x_.2]) := by
 refine Con_of (v := fun (r : (List Int) × Int) (x_ : Value × List Nat) => .tuple #[x_.1, .int .i64 r.2]) (fs := fun r x_ => [.tkn x_.1 r.1 x_.2]) Tryz.func14 rfl Tryz.ntmps14 rfl (((((SH.start hA).start_rd rfl hp0).start_rd rfl hp1).start_rd rfl hp2).start_rd rfl hp3) rfl ?_ hr
 unfold F_impl_MatchOfDerivation
 refine J_sr ?_
 refine JA rfl rfl ?_
 refine JA rfl rfl ?_
 refine JL_nt ?_
 refine J_sr ?_
 refine JM rfl rfl ?_
 refine JM rfl rfl ?_
 refine JM rfl rfl ?_
 refine JL_bnd fun r1 hr2 => ?_
 refine JL_call wn rfl Tryz.call13 rfl (Ca_self (fun _ => rfl) fun w hh => c_impl_RewritesToDominoes _ w (fun _ hk => hk.elim) _ _ (hh.rd0 3 rfl) _ _ (hh.rd0 2 rfl) _ _ (hh.rd0 1 rfl) _ hr2) (fun x3 => ?_)
 obtain ⟨x3_0, x3_1⟩ := x3
 refine JM rfl rfl ?_
 refine JL_q wn rfl (ex_extract rfl rfl) ?_
 refine JL_q wn rfl (ex_extract rfl rfl) ?_
 refine JA rfl rfl ?_
 refine JA rfl rfl ?_
 refine JL_nt ?_
 refine J_seq ?_
 refine J_sr ?_
 refine JM rfl rfl ?_
 refine JL_q wn rfl (ex_neq rfl rfl) ?_
 refine JL_nt ?_
 refine J_if rfl (fun h4 => ?_) (fun h4 => ?_)
 ·refine J_sr ?_
  refine JM rfl rfl ?_
  refine JA rfl rfl ?_
  refine JA rfl rfl ?_
  refine JL_nt ?_
  refine J_ret ?_
  refine N_then_ret ?_
  refine N_ctx (fun w hh => SH.ow_nil (α := Int) 2 hh) ?_
  refine N_ctx (fun w hh => hh.tokf 0 rfl rfl) ?_
  exact N_ret2 rfl (rv_tmp rfl) (rv_tmp rfl) (fun w hh => ⟨((.slice none 0 0 : Value), ((.slice none 0 0 : Value).ownBlock.toList ++ [])), rfl, hh.sel [0] rfl⟩)
 ·refine J_skip ?_
  refine N_then ?_
  refine J_sr ?_
  refine JM rfl rfl ?_
  refine JM rfl rfl ?_
  refine JM rfl rfl ?_
  refine JL_bnd fun r5 hr6 => ?_
  refine JL_call wn rfl Tryz.call41 rfl (Ca_self (fun _ => rfl) fun w hh => c_impl_derived _ w (fun _ hk => hk.elim) _ _ (hh.rd0 4 rfl) _ _ (hh.rd0 3 rfl) _ _ (hh.rd0 1 rfl) _ hr6) (fun x7 => ?_)
  obtain ⟨x7_0, x7_1⟩ := x7
  refine JL_ctx (fun w hh => hh.tkn_rd 0 rfl) ?_
  refine JM rfl rfl ?_
  refine JL_q wn rfl (ex_extract rfl rfl) ?_
  refine JL_q wn rfl (ex_extract rfl rfl) ?_
  refine JA rfl rfl ?_
  refine JA rfl rfl ?_
  refine JL_nt ?_
  refine J_seq ?_
  refine J_block ?_
  refine J_sr ?_
  refine JM rfl rfl ?_
  refine JL_q wn rfl (ex_neq rfl rfl) ?_
  refine JA rfl rfl ?_
  refine JL_nt ?_
  refine J_if rfl (fun h8 => ?_) (fun h8 => ?_)
  ·refine J_sr ?_
   refine JM rfl rfl ?_
   refine JA rfl rfl ?_
   refine JA rfl rfl ?_
   refine JL_nt ?_
   refine J_ret ?_
   refine N_block_ret ?_
   refine N_then_ret ?_
   refine N_ctx (fun w hh => SH.ow_nil (α := Int) 2 hh) ?_
   refine N_ctx (fun w hh => hh.tokf 0 rfl rfl) ?_
   exact N_ret2 rfl (rv_tmp rfl) (rv_tmp rfl) (fun w hh => ⟨((.slice none 0 0 : Value), ((.slice none 0 0 : Value).ownBlock.toList ++ [])), rfl, hh.sel [0] rfl⟩)
  ·refine J_sr ?_
   refine JM rfl rfl ?_
   refine JM rfl rfl ?_
   refine JL_bnd fun r9 hr10 => ?_
   refine JL_call wn rfl Tryz.call42 rfl (Ca_of0 fun w hh => c_slices_Equal_Sint64_int64 _ w (fun _ hk => hk.elim) _ _ (hh.rd0 0 rfl) _ _ (hh.rd0 4 rfl) _ hr10) (fun _ => ?_)
   refine JL_q wn rfl (ex_not rfl) ?_
   refine JA rfl rfl ?_
   refine JL_nt ?_
   refine J_if rfl (fun h11 => ?_) (fun h11 => ?_)
   ·refine J_sr ?_
    refine JA rfl rfl ?_
    refine JA rfl rfl ?_
    refine JL_nt ?_
    refine J_ret ?_
    refine N_block_ret ?_
    refine N_then_ret ?_
    refine N_ctx (fun w hh => SH.ow_nil (α := Int) 2 hh) ?_
    refine N_ctx (fun w hh => hh.tokf 0 rfl rfl) ?_
    exact N_ret2 rfl (rv_tmp rfl) (rv_tmp rfl) (fun w hh => ⟨((.slice none 0 0 : Value), ((.slice none 0 0 : Value).ownBlock.toList ++ [])), rfl, hh.sel [0] rfl⟩)
   ·refine J_skip ?_
    refine N_block ?_
    refine N_then ?_
    refine J_sr ?_
    refine JL_st wn rfl (st_buildSlice (vs := [.int .i64 0]) ([0] : List Int) Tryz.underlying27 ti_2 zi_2 rfl rfl rfl (fun w hh => ⟨(Rd.mk_int _ _ _), trivial⟩)) (fun b12 => ?_)
    refine JM rfl rfl ?_
    refine JA rfl rfl ?_
    refine JA rfl rfl ?_
    refine JL_nt ?_
    refine J_seq ?_
    refine J_sr ?_
    refine JM rfl rfl ?_
    refine JL_q wn rfl (ex_len_rd 4 Tryz.underlying39 rfl rfl) ?_
    refine JM rfl rfl ?_
    refine JL_nt ?_
    refine J_loop' (S := (List Int) × (List Int) × Int) (G := Value × Value) (F_impl_MatchOfDerivation_L1 p0 p3) (fun s13 g14 => [(0, v0_), (10, x3_0), (13, g14.1), (14, g14.2), (48, v3_), (49, .int .i64 (p3.length : Int)), (50, .int .i64 s13.2.2)]) (fun s13 g14 => [.rd v0_ p0, .od 95 x3_0 r1.1 x3_1, .ow 2 g14.1 s13.1, .rd g14.2 s13.2.1, .rd v3_ p3]) (([0] : List Int), p1, 0) ((.slice (some ⟨b12, 0, none⟩) 1 1), v1_) ⟨rfl, rfl, rfl, rfl, rfl, rfl, rfl, trivial⟩ [7, 3, 0, 6, 4] rfl rfl (fun s13 g14 => ?_) (fun s13 g14 => ?_)
    ·obtain ⟨g14_0, g14_1⟩ := g14
     unfold F_impl_MatchOfDerivation_L1
     refine J_sr ?_
     refine JL_q wn rfl (ex_lss rfl rfl) ?_
     refine JL_nt ?_
     refine J_seq ?_
     refine J_if rfl (fun h15 => ?_) (fun h15 => ?_)
     ·refine J_skip ?_
      refine N_then ?_
      refine J_seq ?_
      refine J_block ?_
      refine J_sr ?_
      refine JL_bnd fun y16 hy17 => ?_
      refine JL_st wn rfl (st_index 4 Tryz.underlying39 ti_27 rfl rfl rfl hy17) (fun q18 => ?_)
      refine JL_st wn rfl (st_load_pt_o 0 (opens_sl _) ti_27 rfl rfl) (fun v19 => ?_)
      refine JA rfl rfl ?_
      refine JL_nt ?_
      refine J_seq ?_
      refine J_draw [] (by kernel_rfl) ?_
      refine JP_take (i := 0) [0, 1, 2, 3, 4, 5, 6] [] rfl (by kernel_rfl) (by kernel_rfl) (by kernel_rfl) rfl rfl wn rfl (ex_move rfl) ?_
      refine JP_bnd fun y20 hy21 => ?_
      refine JP_sq (i := 1) [] rfl (by kernel_rfl) (by kernel_rfl) (by kernel_rfl) rfl wn rfl (sq_index 0 Tryz.underlying27 ti_2 rfl rfl rfl hy21) (fun q22 => ?_)
      refine JP_sq (i := 2) [] rfl (by kernel_rfl) (by kernel_rfl) (by kernel_rfl) rfl wn rfl (sq_load_pt_o 0 (opens_int _) ti_2 rfl rfl) (fun _ => ?_)
      refine JP_take (i := 3) [0, 1, 2, 3, 4, 5, 6, 7] [] rfl (by kernel_rfl) (by kernel_rfl) (by kernel_rfl) rfl rfl wn rfl (ex_move rfl) ?_
      refine JP_bnd fun y24 hy25 => ?_
      refine JP_sq (i := 4) [] rfl (by kernel_rfl) (by kernel_rfl) (by kernel_rfl) rfl wn rfl (sq_index 1 Tryz.underlying27 ti_2 rfl rfl rfl hy25) (fun q26 => ?_)
      refine JP_sq (i := 5) [] rfl (by kernel_rfl) (by kernel_rfl) (by kernel_rfl) rfl wn rfl (sq_load_pt_o 0 (opens_int _) ti_2 rfl rfl) (fun _ => ?_)
      refine JP_take (i := 6) [0, 1, 2, 3, 4, 5, 6, 7, 8] [] rfl (by kernel_rfl) (by kernel_rfl) (by kernel_rfl) rfl rfl wn rfl (ex_assign rfl) ?_
      refine JP_take (i := 7) [0, 1, 2, 3, 4, 5, 6, 7, 8] [] rfl (by kernel_rfl) (by kernel_rfl) (by kernel_rfl) rfl rfl wn rfl (ex_assign rfl) ?_
      refine JP_go [] [] rfl rfl rfl (fun _ _ _ => ?_)
      refine JD_done (by kernel_rfl) ?_
      refine N_then ?_
      refine J_sr ?_
      refine JM rfl rfl ?_
      refine JM rfl rfl ?_
      refine JM rfl rfl ?_
      refine JM rfl rfl ?_
      refine JL_bnd fun y28 hy29 => ?_
      refine JL_st wn rfl (st_index 4 Tryz.underlying34 ti_88 rfl rfl rfl hy29) (fun q30 => ?_)
      refine JL_st wn rfl (st_field_pt 0 (GRewrite.at_From _) fi_88_0 rfl rfl rfl) (fun q31 => ?_)
      refine JL_st wn rfl (st_load_pt_o 0 (opens_sl _) ti_27 rfl rfl) (fun v32 => ?_)
      refine JL_q wn rfl (ex_len_rd 0 Tryz.underlying27 rfl rfl) ?_
      refine JL_q wn rfl (ex_add rfl rfl) ?_
      refine JL_bnd fun z33 hz34 => ?_
      refine JL_st wn rfl (st_slice 10 Tryz.underlying27 ti_2 rfl rfl rfl rfl hz34) (fun v35 => ?_)
      refine JA rfl rfl ?_
      refine JL_nt ?_
      refine J_sr ?_
      refine JM rfl rfl ?_
      refine JM rfl rfl ?_
      refine JM rfl rfl ?_
      refine JL_bnd fun z36 hz37 => ?_
      refine JL_st wn rfl (st_slice 11 Tryz.underlying27 ti_2 rfl rfl rfl rfl hz37) (fun v38 => ?_)
      refine JL_bnd fun r39 hr40 => ?_
      refine JL_call wn rfl Tryz.call46 rfl (Ca_self (fun _ => rfl) fun w hh => c_impl_moved _ w (fun _ hk => hk.elim) _ _ (hh.rd0 0 rfl) _ _ hr40) (fun x41 => ?_)
      refine JM rfl rfl ?_
      refine JL_q wn rfl (ex_add rfl rfl) ?_
      refine JL_st wn rfl (st_buildSlice (vs := [.int .i64 (w64 (8 + y20))]) ([(w64 (8 + y20))] : List Int) Tryz.underlying27 ti_2 zi_2 rfl rfl rfl (fun w hh => ⟨(Rd.mk_int _ _ _), trivial⟩)) (fun b42 => ?_)
      refine JM rfl rfl ?_
      refine JL_bnd fun r43 hr44 => ?_
      refine JL_call wn rfl Tryz.call46 rfl (Ca_self (fun _ => rfl) fun w hh => c_impl_moved _ w (fun _ hk => hk.elim) _ _ (hh.rd0 3 rfl) _ _ hr44) (fun x45 => ?_)
      refine JL_st wn rfl (st_buildSlice (vs := [.int .i64 7]) ([7] : List Int) Tryz.underlying27 ti_2 zi_2 rfl rfl rfl (fun w hh => ⟨(Rd.mk_int _ _ _), trivial⟩)) (fun b46 => ?_)
      refine JL_ctx (fun w hh => hh.tokf 15 rfl rfl) ?_
      refine JL_ctx (fun w hh => hh.tokf 4 rfl rfl) ?_
      refine JL_ctx (fun w hh => hh.tokf 4 rfl rfl) ?_
      refine JL_ctx (fun w hh => hh.tokf 4 rfl rfl) ?_
      refine JL_ctx (fun w hh => hh.tokf 4 rfl rfl) ?_
      refine JL_st wn rfl (st_buildSlice_od (vs := [g14_0, x41, (.slice (some ⟨b42, 0, none⟩) 1 1), x45, (.slice (some ⟨b46, 0, none⟩) 1 1)]) (B := (((g14_0 : Value).ownBlock.toList ++ []) ++ (((x41 : Value).ownBlock.toList ++ []) ++ ((((.slice (some ⟨b42, 0, none⟩) 1 1) : Value).ownBlock.toList ++ []) ++ (((x45 : Value).ownBlock.toList ++ []) ++ ((((.slice (some ⟨b46, 0, none⟩) 1 1) : Value).ownBlock.toList ++ []) ++ [])))))) ([s13.1, r39, ([(w64 (8 + y20))] : List Int), r43, ([7] : List Int)] : List (List Int)) [4, 3, 2, 1, 0] Tryz.underlying39 ti_27 zi_27 rfl rfl rfl rfl rfl (fun w hh => (dwv_cons (hh.dw 4 rfl) (dwv_cons (hh.dw 3 rfl) (dwv_cons (hh.dw 2 rfl) (dwv_cons (hh.dw 1 rfl) (dwv_cons (hh.dw 0 rfl) dwv_nil))))))) (fun b47 => ?_)
      refine JL_bnd fun r48 hr49 => ?_
      refine JL_call wn rfl Tryz.call45 rfl (Ca_self (fun _ => rfl) fun w hh => c_impl_joined _ w (fun _ hk => hk.elim) _ _ (hh.od0 0 rfl) _ hr49) (fun x50 => ?_)
      refine JA rfl rfl ?_
      refine JL_nt ?_
      refine J_region ?_
      refine JM rfl rfl ?_
      refine JM rfl rfl ?_
      refine JM rfl rfl ?_
      refine JM rfl rfl ?_
      refine JL_bnd fun r51 hr52 => ?_
      refine JL_call wn rfl Tryz.call47 rfl (Ca_self (fun _ => rfl) fun w hh => c_impl_applyRewrite _ w (fun _ hk => hk.elim) _ _ (hh.rd0 20 rfl) _ _ (hh.rd0 23 rfl) _ _ _ hr52) (fun x53 => ?_)
      obtain ⟨x53_0, x53_1⟩ := x53
      refine JL_ctx (fun w hh => hh.tkn_rd 0 rfl) ?_
      refine JM rfl rfl ?_
      refine JL_q wn rfl (ex_extract rfl rfl) ?_
      refine JL_q wn rfl (ex_extract rfl rfl) ?_
      refine JA rfl rfl ?_
      refine JL_nil ?_
      refine N_block ?_
      refine N_then ?_
      refine J_region ?_
      refine JL_q wn rfl (ex_add rfl rfl) ?_
      refine JM rfl rfl ?_
      refine JL_nil ?_
      exact N_next' (x50, x53_0) ⟨rfl, rfl, rfl, rfl, rfl, rfl, rfl, trivial⟩ [22, 23, 2, 0, 26] rfl rfl
     ·refine J_exit ?_
      refine N_then_exit ?_
      exact N_break' (g14_0, g14_1) ⟨rfl, rfl, rfl, rfl, rfl, rfl, rfl, trivial⟩ [0, 1, 2, 3, 4] rfl rfl
    ·obtain ⟨g14_0, g14_1⟩ := g14
     refine N_then ?_
     refine J_sr ?_
     refine JM rfl rfl ?_
     refine JM rfl rfl ?_
     refine JL_bnd fun r54 hr55 => ?_
     refine JL_call wn rfl Tryz.call49 rfl (Ca_of0 fun w hh => c_impl_size_impl_Domino _ w (fun _ hk => hk.elim) _ _ (hh.od0 1 rfl) _ hr55) (fun _ => ?_)
     refine JL_q wn rfl (ex_sub rfl rfl) ?_
     refine JL_st wn rfl (st_buildSlice (vs := [.int .i64 (w64 (r54 - 1))]) ([(w64 (r54 - 1))] : List Int) Tryz.underlying27 ti_2 zi_2 rfl rfl rfl (fun w hh => ⟨(Rd.mk_int _ _ _), trivial⟩)) (fun b56 => ?_)
     refine JL_bnd fun z57 hz58 => ?_
     refine JL_st wn rfl (st_append 3 Tryz.underlying27 ti_2 zi_2 rfl bi_2 rfl rfl rfl rfl (fun w hh => hh.src_ow 0 rfl) hz58) (fun v59 => ?_)
     refine JL_bnd fun r60 hr61 => ?_
     refine JL_call wn rfl Tryz.call48 rfl (Ca_self (fun _ => rfl) fun w hh => c_impl_shortMatch _ w (fun _ hk => hk.elim) _ _ (hh.ow0 3 rfl) _ hr61) (fun x62 => ?_)
     refine JL_ctx (fun w hh => hh.tokf 4 rfl rfl) ?_
     refine JL_ctx (fun w hh => hh.sub_rd 5 rfl (hh.pr 1 rfl)) ?_
     refine JL_ctx (fun w hh => hh.sub_tkn 1 rfl (hh.pr 2 rfl)) ?_
     refine JL_q wn rfl (ex_extract rfl rfl) ?_
     refine JL_q wn rfl (ex_extract rfl rfl) ?_
     refine JA rfl rfl ?_
     refine JA rfl rfl ?_
     refine JL_nt ?_
     refine J_ret ?_
     exact N_ret2 rfl (rv_tmp rfl) (rv_tmp rfl) (fun w hh => ⟨(x62, ((v59 : Value).ownBlock.toList ++ [])), rfl, hh.sel [1] rfl⟩)
set_option maxHeartbeats 40000000 in
theorem c_spec_l00In (A : Nat → Prop) (w : World) (hA : ∀ k, A k → k < w.heap.size) (p0 : Int) (p1 : Int) (p2 : Int) (r : Bool) (hr : F_spec_l00In p0 p1 p2 = some r) :
  Con Tryz.prog 118 [.int .i64 p0, .int .i64 p1, .int .i64 p2] A w (fun x_ : Unit => .bool r) (fun x_ => []) := by
 refine Con_of (v := fun (r : Bool) (x_ : Unit) => .bool r) (fs := fun r x_ => []) Tryz.func118 rfl Tryz.ntmps118 rfl (SH.start hA) rfl ?_ hr
 unfold F_spec_l00In
 refine J_sr ?_
 refine JA rfl rfl ?_
 refine JL_nt ?_
 refine J_sr ?_
 refine JM rfl rfl ?_
 refine JM rfl rfl ?_
 refine JL_q wn rfl (ex_geq rfl rfl) ?_
 refine JM rfl rfl ?_
 refine JL_cond (fun h1 => ?_) (fun h1 => ?_)
 ·refine JL_q (wants_some rfl rfl rfl h1) rfl (ex_move rfl) ?_
  refine JL_q (wants_some rfl rfl rfl h1) rfl (ex_move rfl) ?_
  refine JL_q (wants_some rfl rfl rfl h1) rfl (ex_leq rfl rfl) ?_
  refine JL_q wn rfl (ex_pick_true rfl h1 rfl) ?_
  refine JA rfl rfl ?_
  refine JL_nt ?_
  refine J_ret ?_
  exact N_ret1 rfl (rv_tmp rfl) (fun w hh => ⟨(), rfl, hh.sel [] rfl⟩)
 ·refine JL_passed rfl rfl rfl h1 ?_
  refine JL_passed rfl rfl rfl h1 ?_
  refine JL_passed rfl rfl rfl h1 ?_
  refine JL_q wn rfl (ex_pick_false rfl h1 rfl) ?_
  refine JA rfl rfl ?_
  refine JL_nt ?_
  refine J_ret ?_
  exact N_ret1 rfl (rv_tmp rfl) (fun w hh => ⟨(), rfl, hh.sel [] rfl⟩)
set_option maxHeartbeats 40000000 in
theorem c_spec_l03Is (A : Nat → Prop) (w : World) (hA : ∀ k, A k → k < w.heap.size) (v0_ : Value) (p0 : (List Int)) (hp0 : Rd A w v0_ p0) (r : Bool) (hr : F_spec_l03Is p0 = some r) :
  Con Tryz.prog 96 [v0_] A w (fun x_ : Unit => .bool r) (fun x_ => []) := by
 refine Con_of (v := fun (r : Bool) (x_ : Unit) => .bool r) (fs := fun r x_ => []) Tryz.func96 rfl Tryz.ntmps96 rfl ((SH.start hA).start_rd rfl hp0) rfl ?_ hr
 unfold F_spec_l03Is
 refine J_sr ?_
 refine JA rfl rfl ?_
 refine JL_nt ?_
 refine J_seq ?_
 refine J_sr ?_
 refine JA rfl rfl ?_
 refine JL_nt ?_
 refine J_loop' (S := Int) (G := Unit) (F_spec_l03Is_L1 p0) (fun s1 _ => [(0, v0_), (3, .int .i64 s1)]) (fun s1 _ => [.rd v0_ p0]) 0 () ⟨rfl, rfl, trivial⟩ [0] rfl rfl (fun s1 g2 => ?_) (fun s1 g2 => ?_)
 ·unfold F_spec_l03Is_L1
  refine J_seq ?_
  refine J_sr ?_
  refine JM rfl rfl ?_
  refine JM rfl rfl ?_
  refine JL_q wn rfl (ex_len_rd 0 Tryz.underlying27 rfl rfl) ?_
  refine JL_q wn rfl (ex_lss rfl rfl) ?_
  refine JL_nt ?_
  refine J_if rfl (fun h3 => ?_) (fun h3 => ?_)
  ·refine J_skip ?_
   refine N_then ?_
   refine J_seq ?_
   refine J_block ?_
   refine J_sr ?_
   refine JM rfl rfl ?_
   refine JM rfl rfl ?_
   refine JL_bnd fun y4 hy5 => ?_
   refine JL_st wn rfl (st_index 0 Tryz.underlying27 ti_2 rfl rfl rfl hy5) (fun q6 => ?_)
   refine JL_st wn rfl (st_load_pt_o 0 (opens_int _) ti_2 rfl rfl) (fun _ => ?_)
   refine JL_bnd fun r8 hr9 => ?_
   refine JL_call wn rfl Tryz.call118 rfl (Ca_of0 fun w hh => c_spec_l00In _ w (fun _ hk => hk.elim) _ _ _ _ hr9) (fun _ => ?_)
   refine JL_q wn rfl (ex_not rfl) ?_
   refine JL_nt ?_
   refine J_if rfl (fun h10 => ?_) (fun h10 => ?_)
   ·refine J_sr ?_
    refine JA rfl rfl ?_
    refine JL_nt ?_
    refine J_ret ?_
    refine N_block_ret ?_
    refine N_then_ret ?_
    refine N_round_ret ?_
    refine N_then_ret ?_
    exact N_ret1 rfl (rv_tmp rfl) (fun w hh => ⟨(), rfl, hh.sel [] rfl⟩)
   ·refine J_skip ?_
    refine N_block ?_
    refine N_then ?_
    refine J_region ?_
    refine JM rfl rfl ?_
    refine JL_q wn rfl (ex_add rfl rfl) ?_
    refine JA rfl rfl ?_
    refine JL_nil ?_
    exact N_next' () ⟨rfl, rfl, trivial⟩ [1] rfl rfl
  ·refine J_exit ?_
   refine N_then_exit ?_
   exact N_break' () ⟨rfl, rfl, trivial⟩ [0] rfl rfl
 ·refine N_then ?_
  refine J_sr ?_
  refine JM rfl rfl ?_
  refine JL_q wn rfl (ex_len_rd 0 Tryz.underlying27 rfl rfl) ?_
  refine JL_q wn rfl (ex_leq rfl rfl) ?_
  refine JA rfl rfl ?_
  refine JL_nt ?_
  refine J_ret ?_
  exact N_ret1 rfl (rv_tmp rfl) (fun w hh => ⟨(), rfl, hh.sel [] rfl⟩)
set_option maxHeartbeats 40000000 in
theorem c_spec_l10Is (A : Nat → Prop) (w : World) (hA : ∀ k, A k → k < w.heap.size) (v0_ : Value) (p0 : (List GRewrite)) (hp0 : Rd A w v0_ p0) (r : Bool) (hr : F_spec_l10Is p0 = some r) :
  Con Tryz.prog 95 [v0_] A w (fun x_ : Unit => .bool r) (fun x_ => []) := by
 refine Con_of (v := fun (r : Bool) (x_ : Unit) => .bool r) (fs := fun r x_ => []) Tryz.func95 rfl Tryz.ntmps95 rfl ((SH.start hA).start_rd rfl hp0) rfl ?_ hr
 unfold F_spec_l10Is
 refine J_sr ?_
 refine JA rfl rfl ?_
 refine JL_nt ?_
 refine J_seq ?_
 refine J_cut' (S' := Unit) (G' := Unit) (fun _ _ => [(0, v0_)]) (fun _ _ => [.rd v0_ p0]) ?_ (fun s1 g2 => ?_)
 ·refine J_sr ?_
  refine JM rfl rfl ?_
  refine JL_q wn rfl (ex_len_rd 0 Tryz.underlying34 rfl rfl) ?_
  refine JL_q wn rfl (ex_lss rfl rfl) ?_
  refine JM rfl rfl ?_
  refine JL_cond (fun h3 => ?_) (fun h3 => ?_)
  ·refine JL_passed rfl rfl rfl h3 ?_
   refine JL_passed rfl rfl rfl h3 ?_
   refine JL_passed rfl rfl rfl h3 ?_
   refine JL_q wn rfl (ex_pick_true rfl h3 rfl) ?_
   refine JL_nt ?_
   refine J_if_true rfl rfl ?_
   refine J_sr ?_
   refine JA rfl rfl ?_
   refine JL_nt ?_
   refine J_ret ?_
   refine N_mid_ret ?_
   refine N_then_ret ?_
   exact N_ret1 rfl (rv_tmp rfl) (fun w hh => ⟨(), rfl, hh.sel [] rfl⟩)
  ·refine JL_q (wants_some rfl rfl rfl h3) rfl (ex_move rfl) ?_
   refine JL_q (wants_some rfl rfl rfl h3) rfl (ex_len_rd 0 Tryz.underlying34 rfl rfl) ?_
   refine JL_q (wants_some rfl rfl rfl h3) rfl (ex_gtr rfl rfl) ?_
   refine JL_q wn rfl (ex_pick_false rfl h3 rfl) ?_
   refine JL_nt ?_
   refine J_if rfl (fun h4 => ?_) (fun h4 => ?_)
   ·refine J_sr ?_
    refine JA rfl rfl ?_
    refine JL_nt ?_
    refine J_ret ?_
    refine N_mid_ret ?_
    refine N_then_ret ?_
    exact N_ret1 rfl (rv_tmp rfl) (fun w hh => ⟨(), rfl, hh.sel [] rfl⟩)
   ·refine J_skip ?_
    exact N_meet' () ⟨rfl, trivial⟩ [0] rfl rfl
 ·refine N_then ?_
  refine J_seq ?_
  refine J_sr ?_
  refine JA rfl rfl ?_
  refine JL_nt ?_
  refine J_loop' (S := Int) (G := Unit) (F_spec_l10Is_L1 p0) (fun s5 _ => [(0, v0_), (3, .int .i64 s5)]) (fun s5 _ => [.rd v0_ p0]) 0 () ⟨rfl, rfl, trivial⟩ [0] rfl rfl (fun s5 g6 => ?_) (fun s5 g6 => ?_)
  ·unfold F_spec_l10Is_L1
   refine J_seq ?_
   refine J_sr ?_
   refine JM rfl rfl ?_
   refine JM rfl rfl ?_
   refine JL_q wn rfl (ex_len_rd 0 Tryz.underlying34 rfl rfl) ?_
   refine JL_q wn rfl (ex_lss rfl rfl) ?_
   refine JL_nt ?_
   refine J_if rfl (fun h7 => ?_) (fun h7 => ?_)
   ·refine J_skip ?_
    refine N_then ?_
    refine J_seq ?_
    refine J_block ?_
    refine J_sr ?_
    refine JM rfl rfl ?_
    refine JM rfl rfl ?_
    refine JL_bnd fun y8 hy9 => ?_
    refine JL_st wn rfl (st_index 0 Tryz.underlying34 ti_88 rfl rfl rfl hy9) (fun q10 => ?_)
    refine JL_st wn rfl (st_field_pt 0 (GRewrite.at_From _) fi_88_0 rfl rfl rfl) (fun q11 => ?_)
    refine JL_st wn rfl (st_load_pt_o 0 (opens_sl _) ti_27 rfl rfl) (fun v12 => ?_)
    refine JL_bnd fun r13 hr14 => ?_
    refine JL_call wn rfl Tryz.call96 rfl (Ca_of0 fun w hh => c_spec_l03Is _ w (fun _ hk => hk.elim) _ _ (hh.rd0 0 rfl) _ hr14) (fun _ => ?_)
    refine JL_q wn rfl (ex_not rfl) ?_
    refine JM rfl rfl ?_
    refine JL_cond (fun h15 => ?_) (fun h15 => ?_)
    ·refine JL_passed rfl rfl rfl h15 ?_
     refine JL_passed rfl rfl rfl h15 ?_
     refine JL_passed rfl rfl rfl h15 ?_
     refine JL_passed rfl rfl rfl h15 ?_
     refine JL_passed rfl rfl rfl h15 ?_
     refine JL_passed rfl rfl rfl h15 ?_
     refine JL_passed rfl rfl rfl h15 ?_
     refine JL_q wn rfl (ex_pick_true rfl h15 rfl) ?_
     refine JM rfl rfl ?_
     refine JL_passed rfl rfl rfl rfl ?_
     refine JL_passed rfl rfl rfl rfl ?_
     refine JL_passed rfl rfl rfl rfl ?_
     refine JL_passed rfl rfl rfl rfl ?_
     refine JL_passed rfl rfl rfl rfl ?_
     refine JL_passed rfl rfl rfl rfl ?_
     refine JL_passed rfl rfl rfl rfl ?_
     refine JL_q wn rfl (ex_pick_true rfl rfl rfl) ?_
     refine JL_nt ?_
     refine J_if_true rfl rfl ?_
     refine J_sr ?_
     refine JA rfl rfl ?_
     refine JL_nt ?_
     refine J_ret ?_
     refine N_block_ret ?_
     refine N_then_ret ?_
     refine N_round_ret ?_
     refine N_then_ret ?_
     exact N_ret1 rfl (rv_tmp rfl) (fun w hh => ⟨(), rfl, hh.sel [] rfl⟩)
    ·refine JL_q (wants_some rfl rfl rfl h15) rfl (ex_move rfl) ?_
     refine JL_q (wants_some rfl rfl rfl h15) rfl (ex_move rfl) ?_
     refine JL_bnd fun y16 hy17 => ?_
     refine JL_st (wants_some rfl rfl rfl h15) rfl (st_index 3 Tryz.underlying34 ti_88 rfl rfl rfl hy17) (fun q18 => ?_)
     refine JL_st (wants_some rfl rfl rfl h15) rfl (st_field_pt 0 (GRewrite.at_To _) fi_88_1 rfl rfl rfl) (fun q19 => ?_)
     refine JL_st (wants_some rfl rfl rfl h15) rfl (st_load_pt_o 0 (opens_sl _) ti_27 rfl rfl) (fun v20 => ?_)
     refine JL_bnd fun r21 hr22 => ?_
     refine JL_call (wants_some rfl rfl rfl h15) rfl Tryz.call96 rfl (Ca_of0 fun w hh => c_spec_l03Is _ w (fun _ hk => hk.elim) _ _ (hh.rd0 0 rfl) _ hr22) (fun _ => ?_)
     refine JL_q (wants_some rfl rfl rfl h15) rfl (ex_not rfl) ?_
     refine JL_q wn rfl (ex_pick_false rfl h15 rfl) ?_
     refine JM rfl rfl ?_
     refine JL_cond (fun h23 => ?_) (fun h23 => ?_)
     ·refine JL_passed rfl rfl rfl h23 ?_
      refine JL_passed rfl rfl rfl h23 ?_
      refine JL_passed rfl rfl rfl h23 ?_
      refine JL_passed rfl rfl rfl h23 ?_
      refine JL_passed rfl rfl rfl h23 ?_
      refine JL_passed rfl rfl rfl h23 ?_
      refine JL_passed rfl rfl rfl h23 ?_
      refine JL_q wn rfl (ex_pick_true rfl h23 rfl) ?_
      refine JL_nt ?_
      refine J_if_true rfl rfl ?_
      refine J_sr ?_
      refine JA rfl rfl ?_
      refine JL_nt ?_
      refine J_ret ?_
      refine N_block_ret ?_
      refine N_then_ret ?_
      refine N_round_ret ?_
      refine N_then_ret ?_
      exact N_ret1 rfl (rv_tmp rfl) (fun w hh => ⟨(), rfl, hh.sel [] rfl⟩)
     ·refine JL_q (wants_some rfl rfl rfl h23) rfl (ex_move rfl) ?_
      refine JL_q (wants_some rfl rfl rfl h23) rfl (ex_move rfl) ?_
      refine JL_bnd fun y24 hy25 => ?_
      refine JL_st (wants_some rfl rfl rfl h23) rfl (st_index 6 Tryz.underlying34 ti_88 rfl rfl rfl hy25) (fun q26 => ?_)
      refine JL_st (wants_some rfl rfl rfl h23) rfl (st_field_pt 0 (GRewrite.at_From _) fi_88_0 rfl rfl rfl) (fun q27 => ?_)
      refine JL_st (wants_some rfl rfl rfl h23) rfl (st_load_pt_o 0 (opens_sl _) ti_27 rfl rfl) (fun v28 => ?_)
      refine JL_q (wants_some rfl rfl rfl h23) rfl (ex_len_rd 0 Tryz.underlying27 rfl rfl) ?_
      refine JL_q (wants_some rfl rfl rfl h23) rfl (ex_eql rfl rfl) ?_
      refine JL_q wn rfl (ex_pick_false rfl h23 rfl) ?_
      refine JL_nt ?_
      refine J_if rfl (fun h29 => ?_) (fun h29 => ?_)
      ·refine J_sr ?_
       refine JA rfl rfl ?_
       refine JL_nt ?_
       refine J_ret ?_
       refine N_block_ret ?_
       refine N_then_ret ?_
       refine N_round_ret ?_
       refine N_then_ret ?_
       exact N_ret1 rfl (rv_tmp rfl) (fun w hh => ⟨(), rfl, hh.sel [] rfl⟩)
      ·refine J_skip ?_
       refine N_block ?_
       refine N_then ?_
       refine J_region ?_
       refine JM rfl rfl ?_
       refine JL_q wn rfl (ex_add rfl rfl) ?_
       refine JA rfl rfl ?_
       refine JL_nil ?_
       exact N_next' () ⟨rfl, rfl, trivial⟩ [9] rfl rfl
   ·refine J_exit ?_
    refine N_then_exit ?_
    exact N_break' () ⟨rfl, rfl, trivial⟩ [0] rfl rfl
  ·refine N_then ?_
   refine J_sr ?_
   refine JA rfl rfl ?_
   refine JL_nt ?_
   refine J_ret ?_
   exact N_ret1 rfl (rv_tmp rfl) (fun w hh => ⟨(), rfl, hh.sel [] rfl⟩)
set_option maxHeartbeats 40000000 in
theorem c_spec_l32Ready (A : Nat → Prop) (w : World) (hA : ∀ k, A k → k < w.heap.size) (v0_ : Value) (p0 : (List GRewrite)) (hp0 : Rd A w v0_ p0) (v1_ : Value) (p1 : (List Int)) (hp1 : Rd A w v1_ p1) (v2_ : Value) (p2 : (List Int)) (hp2 : Rd A w v2_ p2) (r : Bool) (hr : F_spec_l32Ready p0 p1 p2 = some r) :
  Con Tryz.prog 50 [v0_, v1_, v2_] A w (fun x_ : Unit => .bool r) (fun x_ => []) := by
 refine Con_of (v := fun (r : Bool) (x_ : Unit) => .bool r) (fs := fun r x_ => []) Tryz.func50 rfl Tryz.ntmps50 rfl ((((SH.start hA).start_rd rfl hp0).start_rd rfl hp1).start_rd rfl hp2) rfl ?_ hr
 unfold F_spec_l32Ready
 refine J_sr ?_
 refine JA rfl rfl ?_
 refine JL_nt ?_
 refine J_sr ?_
 refine JM rfl rfl ?_
 refine JL_bnd fun r1 hr2 => ?_
 refine JL_call wn rfl Tryz.call95 rfl (Ca_of0 fun w hh => c_spec_l10Is _ w (fun _ hk => hk.elim) _ _ (hh.rd0 2 rfl) _ hr2) (fun _ => ?_)
 refine JM rfl rfl ?_
 refine JL_cond (fun h3 => ?_) (fun h3 => ?_)
 ·refine JL_q (wants_some rfl rfl rfl h3) rfl (ex_move rfl) ?_
  refine JL_bnd fun r4 hr5 => ?_
  refine JL_call (wants_some rfl rfl rfl h3) rfl Tryz.call96 rfl (Ca_of0 fun w hh => c_spec_l03Is _ w (fun _ hk => hk.elim) _ _ (hh.rd0 1 rfl) _ hr5) (fun _ => ?_)
  refine JL_q wn rfl (ex_pick_true rfl h3 rfl) ?_
  refine JM rfl rfl ?_
  refine JL_cond (fun h6 => ?_) (fun h6 => ?_)
  ·refine JL_q (wants_some rfl rfl rfl h6) rfl (ex_move rfl) ?_
   refine JL_bnd fun r7 hr8 => ?_
   refine JL_call (wants_some rfl rfl rfl h6) rfl Tryz.call96 rfl (Ca_of0 fun w hh => c_spec_l03Is _ w (fun _ hk => hk.elim) _ _ (hh.rd0 0 rfl) _ hr8) (fun _ => ?_)
   refine JL_q wn rfl (ex_pick_true rfl h6 rfl) ?_
   refine JA rfl rfl ?_
   refine JL_nt ?_
   refine J_ret ?_
   exact N_ret1 rfl (rv_tmp rfl) (fun w hh => ⟨(), rfl, hh.sel [] rfl⟩)
  ·refine JL_passed rfl rfl rfl h6 ?_
   refine JL_passed rfl rfl rfl h6 ?_
   refine JL_q wn rfl (ex_pick_false rfl h6 rfl) ?_
   refine JA rfl rfl ?_
   refine JL_nt ?_
   refine J_ret ?_
   exact N_ret1 rfl (rv_tmp rfl) (fun w hh => ⟨(), rfl, hh.sel [] rfl⟩)
 ·refine JL_passed rfl rfl rfl h3 ?_
  refine JL_passed rfl rfl rfl h3 ?_
  refine JL_q wn rfl (ex_pick_false rfl h3 rfl) ?_
  refine JM rfl rfl ?_
  refine JL_passed rfl rfl rfl rfl ?_
  refine JL_passed rfl rfl rfl rfl ?_
  refine JL_q wn rfl (ex_pick_false rfl rfl rfl) ?_
  refine JA rfl rfl ?_
  refine JL_nt ?_
  refine J_ret ?_
  exact N_ret1 rfl (rv_tmp rfl) (fun w hh => ⟨(), rfl, hh.sel [] rfl⟩)
end Go.Proofs.YtlepdmenejbleaaGreat
