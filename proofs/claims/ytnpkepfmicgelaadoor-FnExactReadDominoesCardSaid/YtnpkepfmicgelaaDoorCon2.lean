/-
  Each function of the program computes what its plain function says: printed by program. No condition.
-/
import Derived.Test.YtnpkepfmicgelaaDoorFn
import Derived.Test.YtnpkepfmicgelaaDoorInf
import Derived.Test.YtnpkepfmicgelaaDoorCon1
namespace Go.Proofs.YtnpkepfmicgelaaDoor
open Go Go.Tc Go.Fn
set_option linter.unusedVariables false

set_option maxHeartbeats 40000000 in
theorem c_impl_areWords_1 (A : Nat → Prop) (w : World) (hA : ∀ k, A k → k < w.heap.size) (v0_ : Value) (p0 : (List Int)) (hp0 : Rd A w v0_ p0) (r : Bool) (hr : F_impl_areWords_1 p0 = some r) :
    Con Tryd.prog 90 [v0_] A w (fun x_ : Unit => .bool r) (fun x_ => []) := by
  refine Con_of (v := fun (r : Bool) (x_ : Unit) => .bool r) (fs := fun r x_ => []) Tryd.func90 rfl Tryd.ntmps90 rfl ((SH.start hA).start_rd rfl hp0) rfl ?_ hr
  unfold F_impl_areWords_1
  refine J_seq ?_
  refine J_region ?_
  refine JL_q (wants_none rfl) rfl (ex_assign rfl) ?_
  refine JL_nil ?_
  refine N_then ?_
  refine J_seq ?_
  refine J_region ?_
  refine JL_q (wants_none rfl) rfl (ex_move rfl) ?_
  refine JL_bnd fun r1 hr2 => ?_
  refine JL_call (wants_none rfl) rfl Tryd.call91 rfl (Ca_of0 fun w hh => c_impl_IsWord _ w (fun _ hk => hk.elim) _ _ (hh.rd0 0 rfl) _ hr2) (fun _ => ?_)
  refine JL_q (wants_none rfl) rfl (ex_not rfl) ?_
  refine JL_q (wants_none rfl) rfl (ex_assign rfl) ?_
  refine JL_nil ?_
  refine N_then ?_
  refine J_ret ?_
  exact N_ret1 rfl (rv_tmp rfl) (fun w hh => ⟨(), rfl, hh.sel [] rfl⟩)

set_option maxHeartbeats 40000000 in
theorem c_impl_areWords (A : Nat → Prop) (w : World) (hA : ∀ k, A k → k < w.heap.size) (v0_ : Value) (p0 : (List (List Int))) (hp0 : Rd A w v0_ p0) (r : Bool) (hr : F_impl_areWords p0 = some r) :
    Con Tryd.prog 75 [v0_] A w (fun x_ : Unit => .bool r) (fun x_ => []) := by
  refine Con_of (v := fun (r : Bool) (x_ : Unit) => .bool r) (fs := fun r x_ => []) Tryd.func75 rfl Tryd.ntmps75 rfl ((SH.start hA).start_rd rfl hp0) rfl ?_ hr
  unfold F_impl_areWords
  refine J_seq ?_
  refine J_region ?_
  refine JL_q (wants_none rfl) rfl (ex_assign rfl) ?_
  refine JL_nil ?_
  refine N_then ?_
  refine J_seq ?_
  refine J_region ?_
  refine JL_q (wants_none rfl) rfl (ex_move rfl) ?_
  refine JL_bnd fun r1 hr2 => ?_
  refine JL_call (wants_none rfl) rfl Tryd.call89 rfl (Ca_of0 fun w hh => c_slices_ContainsFunc_SSint64_Sint64 _ w (fun _ hk => hk.elim) _ _ (hh.rd0 0 rfl) _ _ (Clo.mk (caps := []) Tryd.call90 (fun w_ hb_ v_ x_ r_ hrd_ hr_ => c_impl_areWords_1 nowhere w_ (fun _ hk => hk.elim) v_ x_ hrd_  _ hr_)) _ hr2) (fun _ => ?_)
  refine JL_q (wants_none rfl) rfl (ex_not rfl) ?_
  refine JL_q (wants_none rfl) rfl (ex_assign rfl) ?_
  refine JL_nil ?_
  refine N_then ?_
  refine J_ret ?_
  exact N_ret1 rfl (rv_tmp rfl) (fun w hh => ⟨(), rfl, hh.sel [] rfl⟩)

set_option maxHeartbeats 40000000 in
theorem c_impl_validDomino (A : Nat → Prop) (w : World) (hA : ∀ k, A k → k < w.heap.size) (v0_ : Value) (p0 : GDomino) (hp0 : Rd A w v0_ p0) (r : Bool) (hr : F_impl_validDomino p0 = some r) :
    Con Tryd.prog 60 [v0_] A w (fun x_ : Unit => .bool r) (fun x_ => []) := by
  obtain ⟨v0_0, v0_1, rfl, hp0_0, hp0_1⟩ := GDomino.open hp0
  refine Con_of (v := fun (r : Bool) (x_ : Unit) => .bool r) (fs := fun r x_ => []) Tryd.func60 rfl Tryd.ntmps60 rfl (((SH.start hA).start_rd rfl hp0_0).start_rd rfl hp0_1) rfl ?_ hr
  unfold F_impl_validDomino
  refine J_seq ?_
  refine J_region ?_
  refine JL_st (wants_none rfl) rfl (st_box' rfl (fun w hh => (cv_aggs ⟨(hh.cv 1 rfl), (hh.cv 0 rfl), trivial⟩))) (fun b1 => ?_)
  refine JL_q (wants_none rfl) rfl (ex_assign rfl) ?_
  refine JL_nil ?_
  refine N_then ?_
  refine J_seq ?_
  refine J_region ?_
  refine JL_q (wants_none rfl) rfl (ex_fieldAddr fi_52_0 rfl rfl) ?_
  refine JL_q (wants_none rfl) rfl (ex_load_bx 0 ti_45 rfl rfl rfl) ?_
  refine JL_q (wants_none rfl) rfl (ex_fieldAddr fi_52_1 rfl rfl) ?_
  refine JL_q (wants_none rfl) rfl (ex_load_bx 0 ti_45 rfl rfl rfl) ?_
  refine JL_st (wants_none rfl) rfl (st_buildSlice (vs := [v0_0, v0_1]) ([p0.Top, p0.Bottom] : List (List Int)) Tryd.underlying105 ti_45 zi_45 rfl rfl rfl (fun w hh => ⟨(hh.rd 2 rfl), (hh.rd 1 rfl), trivial⟩)) (fun b2 => ?_)
  refine JL_bnd fun r3 hr4 => ?_
  refine JL_call (wants_none rfl) rfl Tryd.call75 rfl (Ca_of0 fun w hh => c_impl_areWords _ w (fun _ hk => hk.elim) _ _ (hh.ow0 0 rfl) _ hr4) (fun _ => ?_)
  refine JL_q (wants_none rfl) rfl (ex_move rfl) ?_
  refine JL_cond (fun h5 => ?_) (fun h5 => ?_)
  · refine JL_q (wants_some rfl rfl rfl h5) rfl (ex_fieldAddr fi_52_0 rfl rfl) ?_
    refine JL_q (wants_some rfl rfl rfl h5) rfl (ex_load_bx 1 ti_45 rfl rfl rfl) ?_
    refine JL_q (wants_some rfl rfl rfl h5) rfl (ex_len_rd 3 Tryd.underlying45 rfl rfl) ?_
    refine JL_q (wants_some rfl rfl rfl h5) rfl (ex_fieldAddr fi_52_1 rfl rfl) ?_
    refine JL_q (wants_some rfl rfl rfl h5) rfl (ex_load_bx 1 ti_45 rfl rfl rfl) ?_
    refine JL_q (wants_some rfl rfl rfl h5) rfl (ex_len_rd 2 Tryd.underlying45 rfl rfl) ?_
    refine JL_q (wants_some rfl rfl rfl h5) rfl (ex_add rfl rfl) ?_
    refine JL_q (wants_some rfl rfl rfl h5) rfl (ex_gtr rfl rfl) ?_
    refine JL_q (wants_none rfl) rfl (ex_pick_true rfl h5 rfl) ?_
    refine JL_q (wants_none rfl) rfl (ex_assign rfl) ?_
    refine JL_nil ?_
    refine N_then ?_
    refine J_ret ?_
    exact N_ret1 rfl (rv_tmp rfl) (fun w hh => ⟨(), rfl, hh.sel [] rfl⟩)
  · refine JL_passed rfl rfl rfl h5 ?_
    refine JL_passed rfl rfl rfl h5 ?_
    refine JL_passed rfl rfl rfl h5 ?_
    refine JL_passed rfl rfl rfl h5 ?_
    refine JL_passed rfl rfl rfl h5 ?_
    refine JL_passed rfl rfl rfl h5 ?_
    refine JL_passed rfl rfl rfl h5 ?_
    refine JL_passed rfl rfl rfl h5 ?_
    refine JL_q (wants_none rfl) rfl (ex_pick_false rfl h5 rfl) ?_
    refine JL_q (wants_none rfl) rfl (ex_assign rfl) ?_
    refine JL_nil ?_
    refine N_then ?_
    refine J_ret ?_
    exact N_ret1 rfl (rv_tmp rfl) (fun w hh => ⟨(), rfl, hh.sel [] rfl⟩)

set_option maxHeartbeats 40000000 in
theorem c_impl_ValidDominoes_1 (A : Nat → Prop) (w : World) (hA : ∀ k, A k → k < w.heap.size) (v0_ : Value) (p0 : GDomino) (hp0 : Rd A w v0_ p0) (r : Bool) (hr : F_impl_ValidDominoes_1 p0 = some r) :
    Con Tryd.prog 59 [v0_] A w (fun x_ : Unit => .bool r) (fun x_ => []) := by
  obtain ⟨v0_0, v0_1, rfl, hp0_0, hp0_1⟩ := GDomino.open hp0
  refine Con_of (v := fun (r : Bool) (x_ : Unit) => .bool r) (fs := fun r x_ => []) Tryd.func59 rfl Tryd.ntmps59 rfl (((SH.start hA).start_rd rfl hp0_0).start_rd rfl hp0_1) rfl ?_ hr
  unfold F_impl_ValidDominoes_1
  refine J_seq ?_
  refine J_region ?_
  refine JL_st (wants_none rfl) rfl (st_box' rfl (fun w hh => (cv_aggs ⟨(hh.cv 1 rfl), (hh.cv 0 rfl), trivial⟩))) (fun b1 => ?_)
  refine JL_q (wants_none rfl) rfl (ex_assign rfl) ?_
  refine JL_nil ?_
  refine N_then ?_
  refine J_seq ?_
  refine J_region ?_
  refine JL_q (wants_none rfl) rfl (ex_load_bx_agg 0 ti_52 rfl rfl rfl rfl) ?_
  refine JL_bnd fun r2 hr3 => ?_
  refine JL_call (wants_none rfl) rfl Tryd.call60 rfl (Ca_of0 fun w hh => c_impl_validDomino _ w (fun _ hk => hk.elim) _ _ (GDomino.rdmk (hh.rd0 2 rfl) (hh.rd0 1 rfl)) _ hr3) (fun _ => ?_)
  refine JL_q (wants_none rfl) rfl (ex_not rfl) ?_
  refine JL_q (wants_none rfl) rfl (ex_assign rfl) ?_
  refine JL_nil ?_
  refine N_then ?_
  refine J_ret ?_
  exact N_ret1 rfl (rv_tmp rfl) (fun w hh => ⟨(), rfl, hh.sel [] rfl⟩)

set_option maxHeartbeats 40000000 in
theorem c_impl_ValidDominoes (A : Nat → Prop) (w : World) (hA : ∀ k, A k → k < w.heap.size) (v0_ : Value) (p0 : (List GDomino)) (hp0 : Rd A w v0_ p0) (r : Bool) (hr : F_impl_ValidDominoes p0 = some r) :
    Con Tryd.prog 34 [v0_] A w (fun x_ : Unit => .bool r) (fun x_ => []) := by
  refine Con_of (v := fun (r : Bool) (x_ : Unit) => .bool r) (fs := fun r x_ => []) Tryd.func34 rfl Tryd.ntmps34 rfl ((SH.start hA).start_rd rfl hp0) rfl ?_ hr
  unfold F_impl_ValidDominoes
  refine J_seq ?_
  refine J_region ?_
  refine JL_q (wants_none rfl) rfl (ex_assign rfl) ?_
  refine JL_nil ?_
  refine N_then ?_
  refine J_seq ?_
  refine J_region ?_
  refine JL_q (wants_none rfl) rfl (ex_move rfl) ?_
  refine JL_bnd fun r1 hr2 => ?_
  refine JL_call (wants_none rfl) rfl Tryd.call57 rfl (Ca_of0 fun w hh => c_impl_size_impl_Domino _ w (fun _ hk => hk.elim) _ _ (hh.rd0 0 rfl) _ hr2) (fun _ => ?_)
  refine JL_bnd fun r3 hr4 => ?_
  refine JL_call (wants_none rfl) rfl Tryd.call43 rfl (Ca_of0 fun w hh => c_impl_within _ w (fun _ hk => hk.elim) _ _ _ _ hr4) (fun _ => ?_)
  refine JL_q (wants_none rfl) rfl (ex_move rfl) ?_
  refine JL_cond (fun h5 => ?_) (fun h5 => ?_)
  · refine JL_q (wants_some rfl rfl rfl h5) rfl (ex_move rfl) ?_
    refine JL_bnd fun r6 hr7 => ?_
    refine JL_call (wants_some rfl rfl rfl h5) rfl Tryd.call58 rfl (Ca_of0 fun w hh => c_slices_ContainsFunc_Simpl_Domino_impl_Domino _ w (fun _ hk => hk.elim) _ _ (hh.rd0 0 rfl) _ _ (Clo.mk (caps := []) Tryd.call59 (fun w_ hb_ v_ x_ r_ hrd_ hr_ => c_impl_ValidDominoes_1 nowhere w_ (fun _ hk => hk.elim) v_ x_ hrd_  _ hr_)) _ hr7) (fun _ => ?_)
    refine JL_q (wants_some rfl rfl rfl h5) rfl (ex_not rfl) ?_
    refine JL_q (wants_none rfl) rfl (ex_pick_true rfl h5 rfl) ?_
    refine JL_q (wants_none rfl) rfl (ex_assign rfl) ?_
    refine JL_nil ?_
    refine N_then ?_
    refine J_ret ?_
    exact N_ret1 rfl (rv_tmp rfl) (fun w hh => ⟨(), rfl, hh.sel [] rfl⟩)
  · refine JL_passed rfl rfl rfl h5 ?_
    refine JL_passed rfl rfl rfl h5 ?_
    refine JL_passed rfl rfl rfl h5 ?_
    refine JL_q (wants_none rfl) rfl (ex_pick_false rfl h5 rfl) ?_
    refine JL_q (wants_none rfl) rfl (ex_assign rfl) ?_
    refine JL_nil ?_
    refine N_then ?_
    refine J_ret ?_
    exact N_ret1 rfl (rv_tmp rfl) (fun w hh => ⟨(), rfl, hh.sel [] rfl⟩)

set_option maxHeartbeats 40000000 in
theorem c_impl_digitsText (A : Nat → Prop) (w : World) (hA : ∀ k, A k → k < w.heap.size) (v0_ : Value) (p0 : (List Int)) (hp0 : Rd A w v0_ p0) (r : ByteArray) (hr : F_impl_digitsText p0 = some r) :
    Con Tryd.prog 76 [v0_] A w (fun x_ : Unit => .string r) (fun x_ => []) := by
  refine Con_of (v := fun (r : ByteArray) (x_ : Unit) => .string r) (fs := fun r x_ => []) Tryd.func76 rfl Tryd.ntmps76 rfl ((SH.start hA).start_rd rfl hp0) rfl ?_ hr
  unfold F_impl_digitsText
  refine J_seq ?_
  refine J_region ?_
  refine JL_q (wants_none rfl) rfl (ex_assign rfl) ?_
  refine JL_nil ?_
  refine N_then ?_
  refine J_seq ?_
  refine J_region ?_
  refine JL_st (wants_none rfl) rfl (st_alloc zi_72 rfl) (fun b1 => ?_)
  refine JL_nil ?_
  refine N_then ?_
  refine J_seq ?_
  refine J_seq ?_
  refine J_region ?_
  refine JL_q (wants_none rfl) rfl (ex_move rfl) ?_
  refine JL_q (wants_none rfl) rfl (ex_len_rd 1 Tryd.underlying45 rfl rfl) ?_
  refine JL_q (wants_none rfl) rfl (ex_move rfl) ?_
  refine JL_nil ?_
  refine N_then ?_
  refine J_ctx (fun w hh => SH.ow_nil (α := (Ik .u8)) 5 hh) ?_
  refine J_loop' (S := Bool × (List (Ik .u8)) × Int) (G := Value) (F_impl_digitsText_L1 p0) (fun s2 g3 => [(3, .pointer (some ⟨b1, 0, none⟩)), (6, v0_), (7, .int .i64 (p0.length : Int)), (8, .int .i64 s2.2.2)]) (fun s2 g3 => [.ow 5 g3 s2.2.1, .bx b1 72 [optP s2.1 ⟨b1, 0, none⟩, g3], .rd v0_ p0]) (true, ([] : (List (Ik .u8))), 0) (.slice none 0 0 : Value) ⟨rfl, rfl, rfl, rfl, trivial⟩ [0, 1, 2] rfl rfl (fun s2 g3 => ?_) (fun s2 g3 => ?_)
  · unfold F_impl_digitsText_L1
    refine J_seq ?_
    refine J_region ?_
    refine JL_q (wants_none rfl) rfl (ex_lss rfl rfl) ?_
    refine JL_nil ?_
    refine N_then ?_
    refine J_seq ?_
    refine J_if rfl (fun h4 => ?_) (fun h4 => ?_)
    · refine J_skip ?_
      refine N_then ?_
      refine J_seq ?_
      refine J_block ?_
      refine J_seq ?_
      refine J_region ?_
      refine JL_bnd fun y5 hy6 => ?_
      refine JL_st (wants_none rfl) rfl (st_index 2 Tryd.underlying45 ti_2 rfl rfl rfl hy6) (fun q7 => ?_)
      refine JL_st (wants_none rfl) rfl (st_load_pt_o 0 (opens_int _) ti_2 rfl rfl) (fun _ => ?_)
      refine JL_q (wants_none rfl) rfl (ex_assign rfl) ?_
      refine JL_nil ?_
      refine N_then ?_
      refine J_region ?_
      refine JL_q (wants_none rfl) rfl (ex_move rfl) ?_
      refine JL_q (wants_none rfl) rfl (ex_conv_ik Tryd.underlying2 Tryd.underlying21 rfl) ?_
      refine JL_q (wants_none rfl) rfl (ex_addk rfl rfl) ?_
      refine JL_inline (wants_none rfl) rfl Tryd.call92 rfl Tryd.func92 rfl Tryd.ntmps92 rfl rfl (fun K_ hK9 => ?_)
      refine J_seq ?_
      refine J_region ?_
      refine JL_q (wants_none rfl) rfl (ex_assign rfl) ?_
      refine JL_q (wants_none rfl) rfl (ex_assign rfl) ?_
      refine JL_nil ?_
      refine N_then ?_
      refine J_seq ?_
      refine J_region ?_
      refine JL_q (wants_none rfl) rfl (ex_move rfl) ?_
      refine JL_inline (wants_none rfl) rfl Tryd.call68 rfl Tryd.func68 rfl Tryd.ntmps68 rfl rfl (fun K_ hK10 => ?_)
      refine J_seq ?_
      refine J_region ?_
      refine JL_q (wants_none rfl) rfl (ex_move rfl) ?_
      refine JL_q (wants_none rfl) rfl (ex_nilCheck rfl) ?_
      refine JL_q (wants_none rfl) rfl (ex_fieldAddr fi_72_0 rfl rfl) ?_
      refine JL_q (wants_none rfl) rfl (ex_load_bx 2 ti_69 rfl rfl rfl) ?_
      refine JL_q (wants_none rfl) rfl (ex_eq_opt Tryd.underlying69 rfl rfl) ?_
      refine JL_nil ?_
      refine N_then ?_
      refine J_if rfl (fun h11 => ?_) (fun h11 => ?_)
      · refine J_region ?_
        refine JL_q (wants_none rfl) rfl (ex_move rfl) ?_
        refine JL_q (wants_none rfl) rfl (ex_move rfl) ?_
        refine JL_q (wants_none rfl) rfl (ex_to_unsafe 2 Tryd.underlying69 Tryd.underlying96 ti_72 rfl rfl rfl) ?_
        refine JL_q (wants_none rfl) rfl (ex_extern (vs := [_]) (ext_80 _) rfl) ?_
        refine JL_q (wants_none rfl) rfl (ex_from_unsafe 2 Tryd.underlying96 Tryd.underlying69 ti_72 rfl rfl (by kernel_rfl)) ?_
        refine JL_q (wants_none rfl) rfl (ex_nilCheck rfl) ?_
        refine JL_q (wants_none rfl) rfl (ex_fieldAddr fi_72_0 rfl rfl) ?_
        refine JL_sk (wants_none rfl) (sk_store_bx' 2 ti_69 rfl rfl (fun w hh => cv_ptr) rfl rfl rfl rfl) ?_
        refine JL_nil ?_
        refine N_inl0 (.inr rfl) hK10 rfl ?_
        refine JL_nil ?_
        refine N_then ?_
        refine J_seq ?_
        refine J_region ?_
        refine JL_q (wants_none rfl) rfl (ex_move rfl) ?_
        refine JL_q (wants_none rfl) rfl (ex_nilCheck rfl) ?_
        refine JL_q (wants_none rfl) rfl (ex_fieldAddr fi_72_1 rfl rfl) ?_
        refine JL_q (wants_none rfl) rfl (ex_load_bx 2 ti_70 rfl rfl rfl) ?_
        refine JL_q (wants_none rfl) rfl (ex_len_ow 1 Tryd.underlying70 rfl rfl) ?_
        refine JL_q (wants_none rfl) rfl (ex_assign rfl) ?_
        refine JL_nil ?_
        refine N_then ?_
        refine J_seq ?_
        refine J_region ?_
        refine JL_q (wants_none rfl) rfl (ex_move rfl) ?_
        refine JL_q (wants_none rfl) rfl (ex_move rfl) ?_
        refine JL_q (wants_none rfl) rfl (ex_nilCheck rfl) ?_
        refine JL_q (wants_none rfl) rfl (ex_fieldAddr fi_72_1 rfl rfl) ?_
        refine JL_q (wants_none rfl) rfl (ex_load_bx 2 ti_70 rfl rfl rfl) ?_
        refine JL_q (wants_none rfl) rfl (ex_move rfl) ?_
        refine JL_inline (wants_none rfl) rfl Tryd.call104 rfl Tryd.func104 rfl Tryd.ntmps104 rfl rfl (fun K_ hK12 => ?_)
        refine J_seq ?_
        refine J_region ?_
        refine JL_q (wants_none rfl) rfl (ex_assign rfl) ?_
        refine JL_nil ?_
        refine N_then ?_
        refine J_seq ?_
        refine J_seq ?_
        refine J_region ?_
        refine JL_q (wants_none rfl) rfl (ex_move rfl) ?_
        refine JL_q (wants_none rfl) rfl (ex_conv_ik Tryd.underlying21 Tryd.underlying118 rfl) ?_
        refine JL_q (wants_none rfl) rfl (ex_leq rfl rfl) ?_
        refine JL_nil ?_
        refine N_then ?_
        refine J_if rfl (fun h13 => ?_) (fun h13 => ?_)
        · refine J_seq ?_
          refine J_region ?_
          refine JL_q (wants_none rfl) rfl (ex_move rfl) ?_
          refine JL_q (wants_none rfl) rfl (ex_move rfl) ?_
          refine JL_q (wants_none rfl) rfl (ex_conv_ik Tryd.underlying21 Tryd.underlying5 rfl) ?_
          refine JL_st (wants_none rfl) rfl (st_buildSlice (vs := [.int .u8 (wk .u8 (wk .i32 (48 + (wk .i32 y5))))]) ([(⟨(wk .u8 (wk .i32 (48 + (wk .i32 y5))))⟩ : Ik .u8)] : List (Ik .u8)) Tryd.underlying70 ti_5 zi_5 rfl rfl rfl (fun w hh => ⟨(Rd.mk_ik _ _ _), trivial⟩)) (fun b14 => ?_)
          refine JL_bnd fun z15 hz16 => ?_
          refine JL_st (wants_none rfl) rfl (st_append 2 Tryd.underlying70 ti_5 zi_5 rfl bi_5 rfl rfl rfl rfl (fun w hh => hh.src_ow 0 rfl) hz16) (fun v17 => ?_)
          refine JL_q (wants_none rfl) rfl (ex_assign rfl) ?_
          refine JL_nil ?_
          refine N_then ?_
          refine J_ret ?_
          refine N_then_ret ?_
          refine N_inl1 hK12 rfl (rv_tmp rfl) ?_
          refine JL_q (wants_none rfl) rfl (ex_nilCheck rfl) ?_
          refine JL_q (wants_none rfl) rfl (ex_fieldAddr fi_72_1 rfl rfl) ?_
          refine JL_sk (wants_none rfl) (sk_store_bx' 3 ti_70 rfl rfl (fun w hh => (hh.cv_ow 2 rfl)) rfl rfl rfl rfl) ?_
          refine JL_nil ?_
          refine N_then ?_
          refine J_seq ?_
          refine J_region ?_
          refine JL_q (wants_none rfl) rfl (ex_move rfl) ?_
          refine JL_q (wants_none rfl) rfl (ex_nilCheck rfl) ?_
          refine JL_q (wants_none rfl) rfl (ex_fieldAddr fi_72_1 rfl rfl) ?_
          refine JL_q (wants_none rfl) rfl (ex_load_bx 3 ti_70 rfl rfl rfl) ?_
          refine JL_q (wants_none rfl) rfl (ex_len_ow 2 Tryd.underlying70 rfl rfl) ?_
          refine JL_q (wants_none rfl) rfl (ex_move rfl) ?_
          refine JL_q (wants_none rfl) rfl (ex_sub rfl rfl) ?_
          refine JL_q (wants_none rfl) rfl (ex_assign rfl) ?_
          refine JL_q (wants_none rfl) rfl (ex_assign rfl) ?_
          refine JL_nil ?_
          refine N_then ?_
          refine J_ret ?_
          refine N_inl2 hK9 rfl (rv_tmp rfl) (rv_tmp rfl) ?_
          refine JL_nil ?_
          refine N_block ?_
          refine N_then ?_
          refine J_region ?_
          refine JL_q (wants_none rfl) rfl (ex_add rfl rfl) ?_
          refine JL_q (wants_none rfl) rfl (ex_move rfl) ?_
          refine JL_nil ?_
          exact N_next' v17 ⟨rfl, rfl, rfl, rfl, trivial⟩ [2, 3, 4] rfl rfl
        · refine J_skip ?_
          refine N_then ?_
          refine J_seq ?_
          refine J_region ?_
          refine JL_q (wants_none rfl) rfl (ex_move rfl) ?_
          refine JL_q (wants_none rfl) rfl (ex_move rfl) ?_
          exact JL_none
      · refine J_seq ?_
        refine J_region ?_
        refine JL_q (wants_none rfl) rfl (ex_move rfl) ?_
        refine JL_q (wants_none rfl) rfl (ex_nilCheck rfl) ?_
        refine JL_q (wants_none rfl) rfl (ex_fieldAddr fi_72_0 rfl rfl) ?_
        refine JL_q (wants_none rfl) rfl (ex_load_bx 2 ti_69 rfl rfl rfl) ?_
        refine JL_q (wants_none rfl) rfl (ex_move rfl) ?_
        refine JL_q (wants_none rfl) rfl (ex_ne_opt Tryd.underlying69 ti_72 h11 rfl rfl) ?_
        refine JL_nil ?_
        refine N_then ?_
        refine J_if_false rfl rfl ?_
        refine J_skip ?_
        refine N_inl0 (.inr rfl) hK10 rfl ?_
        refine JL_nil ?_
        refine N_then ?_
        refine J_seq ?_
        refine J_region ?_
        refine JL_q (wants_none rfl) rfl (ex_move rfl) ?_
        refine JL_q (wants_none rfl) rfl (ex_nilCheck rfl) ?_
        refine JL_q (wants_none rfl) rfl (ex_fieldAddr fi_72_1 rfl rfl) ?_
        refine JL_q (wants_none rfl) rfl (ex_load_bx 2 ti_70 rfl rfl rfl) ?_
        refine JL_q (wants_none rfl) rfl (ex_len_ow 1 Tryd.underlying70 rfl rfl) ?_
        refine JL_q (wants_none rfl) rfl (ex_assign rfl) ?_
        refine JL_nil ?_
        refine N_then ?_
        refine J_seq ?_
        refine J_region ?_
        refine JL_q (wants_none rfl) rfl (ex_move rfl) ?_
        refine JL_q (wants_none rfl) rfl (ex_move rfl) ?_
        refine JL_q (wants_none rfl) rfl (ex_nilCheck rfl) ?_
        refine JL_q (wants_none rfl) rfl (ex_fieldAddr fi_72_1 rfl rfl) ?_
        refine JL_q (wants_none rfl) rfl (ex_load_bx 2 ti_70 rfl rfl rfl) ?_
        refine JL_q (wants_none rfl) rfl (ex_move rfl) ?_
        refine JL_inline (wants_none rfl) rfl Tryd.call104 rfl Tryd.func104 rfl Tryd.ntmps104 rfl rfl (fun K_ hK18 => ?_)
        refine J_seq ?_
        refine J_region ?_
        refine JL_q (wants_none rfl) rfl (ex_assign rfl) ?_
        refine JL_nil ?_
        refine N_then ?_
        refine J_seq ?_
        refine J_seq ?_
        refine J_region ?_
        refine JL_q (wants_none rfl) rfl (ex_move rfl) ?_
        refine JL_q (wants_none rfl) rfl (ex_conv_ik Tryd.underlying21 Tryd.underlying118 rfl) ?_
        refine JL_q (wants_none rfl) rfl (ex_leq rfl rfl) ?_
        refine JL_nil ?_
        refine N_then ?_
        refine J_if rfl (fun h19 => ?_) (fun h19 => ?_)
        · refine J_seq ?_
          refine J_region ?_
          refine JL_q (wants_none rfl) rfl (ex_move rfl) ?_
          refine JL_q (wants_none rfl) rfl (ex_move rfl) ?_
          refine JL_q (wants_none rfl) rfl (ex_conv_ik Tryd.underlying21 Tryd.underlying5 rfl) ?_
          refine JL_st (wants_none rfl) rfl (st_buildSlice (vs := [.int .u8 (wk .u8 (wk .i32 (48 + (wk .i32 y5))))]) ([(⟨(wk .u8 (wk .i32 (48 + (wk .i32 y5))))⟩ : Ik .u8)] : List (Ik .u8)) Tryd.underlying70 ti_5 zi_5 rfl rfl rfl (fun w hh => ⟨(Rd.mk_ik _ _ _), trivial⟩)) (fun b20 => ?_)
          refine JL_bnd fun z21 hz22 => ?_
          refine JL_st (wants_none rfl) rfl (st_append 2 Tryd.underlying70 ti_5 zi_5 rfl bi_5 rfl rfl rfl rfl (fun w hh => hh.src_ow 0 rfl) hz22) (fun v23 => ?_)
          refine JL_q (wants_none rfl) rfl (ex_assign rfl) ?_
          refine JL_nil ?_
          refine N_then ?_
          refine J_ret ?_
          refine N_then_ret ?_
          refine N_inl1 hK18 rfl (rv_tmp rfl) ?_
          refine JL_q (wants_none rfl) rfl (ex_nilCheck rfl) ?_
          refine JL_q (wants_none rfl) rfl (ex_fieldAddr fi_72_1 rfl rfl) ?_
          refine JL_sk (wants_none rfl) (sk_store_bx' 3 ti_70 rfl rfl (fun w hh => (hh.cv_ow 2 rfl)) rfl rfl rfl rfl) ?_
          refine JL_nil ?_
          refine N_then ?_
          refine J_seq ?_
          refine J_region ?_
          refine JL_q (wants_none rfl) rfl (ex_move rfl) ?_
          refine JL_q (wants_none rfl) rfl (ex_nilCheck rfl) ?_
          refine JL_q (wants_none rfl) rfl (ex_fieldAddr fi_72_1 rfl rfl) ?_
          refine JL_q (wants_none rfl) rfl (ex_load_bx 3 ti_70 rfl rfl rfl) ?_
          refine JL_q (wants_none rfl) rfl (ex_len_ow 2 Tryd.underlying70 rfl rfl) ?_
          refine JL_q (wants_none rfl) rfl (ex_move rfl) ?_
          refine JL_q (wants_none rfl) rfl (ex_sub rfl rfl) ?_
          refine JL_q (wants_none rfl) rfl (ex_assign rfl) ?_
          refine JL_q (wants_none rfl) rfl (ex_assign rfl) ?_
          refine JL_nil ?_
          refine N_then ?_
          refine J_ret ?_
          refine N_inl2 hK9 rfl (rv_tmp rfl) (rv_tmp rfl) ?_
          refine JL_nil ?_
          refine N_block ?_
          refine N_then ?_
          refine J_region ?_
          refine JL_q (wants_none rfl) rfl (ex_add rfl rfl) ?_
          refine JL_q (wants_none rfl) rfl (ex_move rfl) ?_
          refine JL_nil ?_
          exact N_next' v23 ⟨rfl, rfl, rfl, rfl, trivial⟩ [2, 3, 4] rfl rfl
        · refine J_skip ?_
          refine N_then ?_
          refine J_seq ?_
          refine J_region ?_
          refine JL_q (wants_none rfl) rfl (ex_move rfl) ?_
          refine JL_q (wants_none rfl) rfl (ex_move rfl) ?_
          exact JL_none
    · refine J_exit ?_
      refine N_then_exit ?_
      exact N_break' g3 ⟨rfl, rfl, rfl, rfl, trivial⟩ [0, 1, 2] rfl rfl
  · refine N_then ?_
    refine J_seq ?_
    refine J_region ?_
    refine JL_inline (wants_none rfl) rfl Tryd.call50 rfl Tryd.func50 rfl Tryd.ntmps50 rfl rfl (fun K_ hK24 => ?_)
    refine J_seq ?_
    refine J_region ?_
    refine JL_q (wants_none rfl) rfl (ex_assign rfl) ?_
    refine JL_nil ?_
    refine N_then ?_
    refine J_seq ?_
    refine J_draw [0] (by kernel_rfl) ?_
    refine JP_take (i := 0) [1, 2] [0] rfl (by kernel_rfl) (by kernel_rfl) (by kernel_rfl) rfl rfl (wants_none rfl) rfl (ex_move rfl) ?_
    refine JP_take (i := 1) [1, 2] [0] rfl (by kernel_rfl) (by kernel_rfl) (by kernel_rfl) rfl rfl (wants_none rfl) rfl (ex_nilCheck rfl) ?_
    refine JP_take (i := 2) [1, 2] [0] rfl (by kernel_rfl) (by kernel_rfl) (by kernel_rfl) rfl rfl (wants_none rfl) rfl (ex_fieldAddr fi_72_1 rfl rfl) ?_
    refine JP_take (i := 3) [1, 2] [0] rfl (by kernel_rfl) (by kernel_rfl) (by kernel_rfl) rfl rfl (wants_none rfl) rfl (ex_load_bx 0 ti_70 rfl rfl rfl) ?_
    refine JP_take (i := 5) [1, 2] [0] rfl (by kernel_rfl) (by kernel_rfl) (by kernel_rfl) rfl rfl (wants_none rfl) rfl (ex_move rfl) ?_
    refine JP_take (i := 6) [1, 2] [0] rfl (by kernel_rfl) (by kernel_rfl) (by kernel_rfl) rfl rfl (wants_none rfl) rfl (ex_nilCheck rfl) ?_
    refine JP_take (i := 7) [1, 2] [0] rfl (by kernel_rfl) (by kernel_rfl) (by kernel_rfl) rfl rfl (wants_none rfl) rfl (ex_fieldAddr fi_72_1 rfl rfl) ?_
    refine JP_take (i := 8) [1, 2] [0] rfl (by kernel_rfl) (by kernel_rfl) (by kernel_rfl) rfl rfl (wants_none rfl) rfl (ex_load_bx 0 ti_70 rfl rfl rfl) ?_
    refine JP_go [1, 2] [0] rfl rfl rfl (fun w26 h1_27 hp25 => ?_)
    refine JD_two (i := 4) (j := 9) (by kernel_rfl) ?_ ?_
    · refine JO_st rfl (wants_none rfl) rfl (st_sliceData (t := 70) 0 Tryd.underlying90 rfl rfl) (fun _ hk => nomatch hk) (fun u28 => ?_)
      refine JD_one (i := 9) (by kernel_rfl) ?_
      refine JO_q rfl (wants_none rfl) rfl (ex_len_ow 1 Tryd.underlying70 rfl rfl) ?_
      refine JD_one (i := 10) (by kernel_rfl) ?_
      refine JO_st rfl (wants_none rfl) rfl (st_uString 1 0 Tryd.underlying90 (by kernel_rfl) rfl rfl rfl rfl) (sub_ow 0 rfl) (fun _ => ?_)
      refine JD_take (i := 11) hp25 rfl (by kernel_rfl) (by kernel_rfl) (by kernel_rfl) (wants_none rfl) rfl (ex_assign rfl) ?_
      refine JD_done (by kernel_rfl) ?_
      refine N_then ?_
      refine J_ret ?_
      refine N_inl1 hK24 rfl (rv_tmp rfl) ?_
      refine JL_q (wants_none rfl) rfl (ex_assign rfl) ?_
      refine JL_nil ?_
      refine N_then ?_
      refine J_ret ?_
      exact N_ret1 rfl (rv_tmp rfl) (fun w hh => ⟨(), rfl, hh.sel [] rfl⟩)
    · refine JO_q rfl (wants_none rfl) rfl (ex_len_ow 0 Tryd.underlying70 rfl rfl) ?_
      refine JD_one (i := 4) (by kernel_rfl) ?_
      refine JO_st rfl (wants_none rfl) rfl (st_sliceData (t := 70) 0 Tryd.underlying90 rfl rfl) (fun _ hk => nomatch hk) (fun u29 => ?_)
      refine JD_one (i := 10) (by kernel_rfl) ?_
      refine JO_st rfl (wants_none rfl) rfl (st_uString 1 0 Tryd.underlying90 (by kernel_rfl) rfl rfl rfl rfl) (sub_ow 0 rfl) (fun _ => ?_)
      refine JD_take (i := 11) hp25 rfl (by kernel_rfl) (by kernel_rfl) (by kernel_rfl) (wants_none rfl) rfl (ex_assign rfl) ?_
      refine JD_done (by kernel_rfl) ?_
      refine N_then ?_
      refine J_ret ?_
      refine N_inl1 hK24 rfl (rv_tmp rfl) ?_
      refine JL_q (wants_none rfl) rfl (ex_assign rfl) ?_
      refine JL_nil ?_
      refine N_then ?_
      refine J_ret ?_
      exact N_ret1 rfl (rv_tmp rfl) (fun w hh => ⟨(), rfl, hh.sel [] rfl⟩)

set_option maxHeartbeats 40000000 in
theorem c_impl_wordText (A : Nat → Prop) (w : World) (hA : ∀ k, A k → k < w.heap.size) (v0_ : Value) (p0 : (List Int)) (hp0 : Rd A w v0_ p0) (r : ByteArray) (hr : F_impl_wordText p0 = some r) :
    Con Tryd.prog 61 [v0_] A w (fun x_ : Unit => .string r) (fun x_ => []) := by
  refine Con_of (v := fun (r : ByteArray) (x_ : Unit) => .string r) (fs := fun r x_ => []) Tryd.func61 rfl Tryd.ntmps61 rfl ((SH.start hA).start_rd rfl hp0) rfl ?_ hr
  unfold F_impl_wordText
  refine J_seq ?_
  refine J_region ?_
  refine JL_q (wants_none rfl) rfl (ex_assign rfl) ?_
  refine JL_nil ?_
  refine N_then ?_
  refine J_seq ?_
  refine J_seq ?_
  refine J_region ?_
  refine JL_q (wants_none rfl) rfl (ex_move rfl) ?_
  refine JL_q (wants_none rfl) rfl (ex_len_rd 0 Tryd.underlying45 rfl rfl) ?_
  refine JL_q (wants_none rfl) rfl (ex_eql rfl rfl) ?_
  refine JL_nil ?_
  refine N_then ?_
  refine J_if rfl (fun h1 => ?_) (fun h1 => ?_)
  · refine J_seq ?_
    refine J_region ?_
    refine JL_q (wants_none rfl) rfl (ex_assign rfl) ?_
    refine JL_nil ?_
    refine N_then ?_
    refine J_ret ?_
    refine N_then_ret ?_
    exact N_ret1 rfl (rv_tmp rfl) (fun w hh => ⟨(), rfl, hh.sel [] rfl⟩)
  · refine J_skip ?_
    refine N_then ?_
    refine J_seq ?_
    refine J_region ?_
    refine JL_q (wants_none rfl) rfl (ex_move rfl) ?_
    refine JL_bnd fun r2 hr3 => ?_
    refine JL_call (wants_none rfl) rfl Tryd.call76 rfl (Ca_of0 fun w hh => c_impl_digitsText _ w (fun _ hk => hk.elim) _ _ (hh.rd0 0 rfl) _ hr3) (fun _ => ?_)
    refine JL_q (wants_none rfl) rfl (ex_assign rfl) ?_
    refine JL_nil ?_
    refine N_then ?_
    refine J_ret ?_
    exact N_ret1 rfl (rv_tmp rfl) (fun w hh => ⟨(), rfl, hh.sel [] rfl⟩)

theorem c_strings_Join (A : Nat → Prop) (w : World) (hA : ∀ k, A k → k < w.heap.size) (v0_ : Value) (p0 : List ByteArray) (hp0 : Rd A w v0_ p0) (p1 : ByteArray) (r : ByteArray) (hr : joinG p0 p1 = some r) :
    Con Tryd.prog 25 [v0_, .string p1] A w (fun _ : Unit => .string r) (fun _ => []) := con_join ⟨Go.Proofs.Tryd.strings_Join_none, Go.Proofs.Tryd.strings_Join⟩ A w hA v0_ p0 hp0 p1 r hr

set_option maxHeartbeats 40000000 in
theorem c_impl_DominoesText (A : Nat → Prop) (w : World) (hA : ∀ k, A k → k < w.heap.size) (v0_ : Value) (p0 : (List GDomino)) (hp0 : Rd A w v0_ p0) (r : ByteArray) (hr : F_impl_DominoesText p0 = some r) :
    Con Tryd.prog 35 [v0_] A w (fun x_ : Unit => .string r) (fun x_ => []) := by
  refine Con_of (v := fun (r : ByteArray) (x_ : Unit) => .string r) (fs := fun r x_ => []) Tryd.func35 rfl Tryd.ntmps35 rfl ((SH.start hA).start_rd rfl hp0) rfl ?_ hr
  unfold F_impl_DominoesText
  refine J_seq ?_
  refine J_region ?_
  refine JL_q (wants_none rfl) rfl (ex_assign rfl) ?_
  refine JL_nil ?_
  refine N_then ?_
  refine J_seq ?_
  refine J_seq ?_
  refine J_region ?_
  refine JL_q (wants_none rfl) rfl (ex_move rfl) ?_
  refine JL_bnd fun r1 hr2 => ?_
  refine JL_call (wants_none rfl) rfl Tryd.call34 rfl (Ca_of0 fun w hh => c_impl_ValidDominoes _ w (fun _ hk => hk.elim) _ _ (hh.rd0 0 rfl) _ hr2) (fun _ => ?_)
  refine JL_q (wants_none rfl) rfl (ex_not rfl) ?_
  refine JL_nil ?_
  refine N_then ?_
  refine J_if rfl (fun h3 => ?_) (fun h3 => ?_)
  · refine J_seq ?_
    refine J_region ?_
    refine JL_q (wants_none rfl) rfl (ex_assign rfl) ?_
    refine JL_nil ?_
    refine N_then ?_
    refine J_ret ?_
    refine N_then_ret ?_
    exact N_ret1 rfl (rv_tmp rfl) (fun w hh => ⟨(), rfl, hh.sel [] rfl⟩)
  · refine J_skip ?_
    refine N_then ?_
    refine J_seq ?_
    refine J_region ?_
    refine JL_st (wants_none rfl) rfl (st_buildSlice (vs := []) ([] : List ByteArray) Tryd.underlying43 ti_9 zi_9 rfl rfl rfl (fun w hh => trivial)) (fun b4 => ?_)
    refine JL_q (wants_none rfl) rfl (ex_assign rfl) ?_
    refine JL_nil ?_
    refine N_then ?_
    refine J_seq ?_
    refine J_seq ?_
    refine J_region ?_
    refine JL_q (wants_none rfl) rfl (ex_move rfl) ?_
    refine JL_q (wants_none rfl) rfl (ex_len_rd 1 Tryd.underlying29 rfl rfl) ?_
    refine JL_q (wants_none rfl) rfl (ex_move rfl) ?_
    refine JL_nil ?_
    refine N_then ?_
    refine J_loop' (S := (List ByteArray) × Int) (G := Value) (F_impl_DominoesText_L1 p0) (fun s5 g6 => [(3, g6), (10, v0_), (11, .int .i64 (p0.length : Int)), (12, .int .i64 s5.2)]) (fun s5 g6 => [.ow 9 g6 s5.1, .rd v0_ p0]) (([] : List ByteArray), 0) (.slice (some ⟨b4, 0, none⟩) 0 0) ⟨rfl, rfl, rfl, rfl, trivial⟩ [0, 1] rfl rfl (fun s5 g6 => ?_) (fun s5 g6 => ?_)
    · unfold F_impl_DominoesText_L1
      refine J_seq ?_
      refine J_region ?_
      refine JL_q (wants_none rfl) rfl (ex_lss rfl rfl) ?_
      refine JL_nil ?_
      refine N_then ?_
      refine J_seq ?_
      refine J_if rfl (fun h7 => ?_) (fun h7 => ?_)
      · refine J_skip ?_
        refine N_then ?_
        refine J_seq ?_
        refine J_block ?_
        refine J_seq ?_
        refine J_region ?_
        refine JL_bnd fun y8 hy9 => ?_
        refine JL_st (wants_none rfl) rfl (st_index 1 Tryd.underlying29 ti_52 rfl rfl rfl hy9) (fun q10 => ?_)
        refine JL_st (wants_none rfl) rfl (st_load_pt_o 0 (GDomino.opens _) ti_52 rfl rfl) (fun v11 => ?_)
        refine JL_st (wants_none rfl) rfl (st_alloc zi_52 rfl) (fun b12 => ?_)
        refine JL_sk (wants_none rfl) (sk_store_bx' 0 ti_52 rfl rfl (fun w hh => (cv_aggs ⟨(hh.cv 1 rfl), (hh.cv 2 rfl), trivial⟩)) rfl rfl rfl rfl) ?_
        refine JL_nil ?_
        refine N_then ?_
        refine J_draw [4] (by kernel_rfl) ?_
        refine JP_take (i := 0) [0, 1, 2, 3, 5] [4] rfl (by kernel_rfl) (by kernel_rfl) (by kernel_rfl) rfl rfl (wants_none rfl) rfl (ex_move rfl) ?_
        refine JP_take (i := 1) [0, 1, 2, 3, 5] [4] rfl (by kernel_rfl) (by kernel_rfl) (by kernel_rfl) rfl rfl (wants_none rfl) rfl (ex_fieldAddr fi_52_0 rfl rfl) ?_
        refine JP_take (i := 2) [0, 1, 2, 3, 5] [4] rfl (by kernel_rfl) (by kernel_rfl) (by kernel_rfl) rfl rfl (wants_none rfl) rfl (ex_load_bx 0 ti_45 rfl rfl rfl) ?_
        refine JP_take (i := 5) [0, 1, 2, 3, 5] [4] rfl (by kernel_rfl) (by kernel_rfl) (by kernel_rfl) rfl rfl (wants_none rfl) rfl (ex_fieldAddr fi_52_1 rfl rfl) ?_
        refine JP_take (i := 6) [0, 1, 2, 3, 5] [4] rfl (by kernel_rfl) (by kernel_rfl) (by kernel_rfl) rfl rfl (wants_none rfl) rfl (ex_load_bx 0 ti_45 rfl rfl rfl) ?_
        refine JP_go [0, 1, 2, 3, 5] [4] rfl rfl rfl (fun w14 h1_15 hp13 => ?_)
        refine JD_bnd fun r16 hr17 => ?_
        refine JD_one (i := 3) (by kernel_rfl) ?_
        refine JO_call rfl (wants_none rfl) rfl Tryd.call61 rfl (Ca_of0 fun w hh => c_impl_wordText _ w (fun _ hk => hk.elim) _ _ (hh.rd0 1 rfl) _ hr17) (fun _ => ?_)
        refine JD_bnd fun z18 hz19 => ?_
        refine JD_take (i := 4) hp13 rfl (by kernel_rfl) (by kernel_rfl) (by kernel_rfl) (wants_none rfl) rfl (ex_add_str rfl rfl hz19) ?_
        refine JD_bnd fun r20 hr21 => ?_
        refine JD_one (i := 7) (by kernel_rfl) ?_
        refine JO_call rfl (wants_none rfl) rfl Tryd.call61 rfl (Ca_of0 fun w hh => c_impl_wordText _ w (fun _ hk => hk.elim) _ _ (hh.rd0 2 rfl) _ hr21) (fun _ => ?_)
        refine JD_bnd fun z22 hz23 => ?_
        refine JD_take (i := 8) hp13 rfl (by kernel_rfl) (by kernel_rfl) (by kernel_rfl) (wants_none rfl) rfl (ex_add_str rfl rfl hz23) ?_
        refine JD_one (i := 9) (by kernel_rfl) ?_
        refine JO_st rfl (wants_none rfl) rfl (st_buildSlice (vs := [.string z22]) ([z22] : List ByteArray) Tryd.underlying43 ti_9 zi_9 rfl rfl rfl (fun w hh => ⟨(Rd.mk_str _ _ _), trivial⟩)) (fun _ hk => nomatch hk) (fun b24 => ?_)
        refine JD_bnd fun z25 hz26 => ?_
        refine JD_one (i := 10) (by kernel_rfl) ?_
        refine JO_st rfl (wants_none rfl) rfl (st_append 5 Tryd.underlying43 ti_9 zi_9 rfl bi_9 rfl rfl rfl rfl (fun w hh => hh.src_ow 0 rfl) hz26) (sub_ow 0 rfl) (fun v27 => ?_)
        refine JD_take (i := 11) hp13 rfl (by kernel_rfl) (by kernel_rfl) (by kernel_rfl) (wants_none rfl) rfl (ex_assign rfl) ?_
        refine JD_done (by kernel_rfl) ?_
        refine N_block ?_
        refine N_then ?_
        refine J_region ?_
        refine JL_q (wants_none rfl) rfl (ex_add rfl rfl) ?_
        refine JL_q (wants_none rfl) rfl (ex_move rfl) ?_
        refine JL_nil ?_
        exact N_next' v27 ⟨rfl, rfl, rfl, rfl, trivial⟩ [5, 6] rfl rfl
      · refine J_exit ?_
        refine N_then_exit ?_
        exact N_break' g6 ⟨rfl, rfl, rfl, rfl, trivial⟩ [0, 1] rfl rfl
    · refine N_then ?_
      refine J_seq ?_
      refine J_region ?_
      refine JL_q (wants_none rfl) rfl (ex_move rfl) ?_
      refine JL_bnd fun r28 hr29 => ?_
      refine JL_call (wants_none rfl) rfl Tryd.call25 rfl (Ca_of0 fun w hh => c_strings_Join _ w (fun _ hk => hk.elim) _ _ (hh.ow0 0 rfl) _ _ hr29) (fun _ => ?_)
      refine JL_q (wants_none rfl) rfl (ex_assign rfl) ?_
      refine JL_nil ?_
      refine N_then ?_
      refine J_ret ?_
      exact N_ret1 rfl (rv_tmp rfl) (fun w hh => ⟨(), rfl, hh.sel [] rfl⟩)

set_option maxHeartbeats 40000000 in
theorem c_impl_ReadDominoes (A : Nat → Prop) (w : World) (hA : ∀ k, A k → k < w.heap.size) (hT_ : Mxl Tryd.prog w) (p0 : ByteArray) (r : (List GDomino) × Bool) (hr : F_impl_ReadDominoes p0 = some r) :
    Con Tryd.prog 12 [.string p0] A w (fun x_ : Value × List Nat => .tuple #[x_.1, .bool r.2]) (fun x_ => [.od 52 x_.1 r.1 x_.2]) := by
  refine Con_of (v := fun (r : (List GDomino) × Bool) (x_ : Value × List Nat) => .tuple #[x_.1, .bool r.2]) (fs := fun r x_ => [.od 52 x_.1 r.1 x_.2]) Tryd.func12 rfl Tryd.ntmps12 rfl (SH.start hA) rfl ?_ hr
  unfold F_impl_ReadDominoes
  refine J_seq ?_
  refine J_region ?_
  refine JL_q (wants_none rfl) rfl (ex_assign rfl) ?_
  refine JL_q (wants_none rfl) rfl (ex_assign rfl) ?_
  refine JL_nil ?_
  refine N_then ?_
  refine J_seq ?_
  refine J_region ?_
  refine JL_st (wants_none rfl) rfl (st_buildSlice_od (vs := []) (B := ([] : List Nat)) ([] : List GDomino) [] Tryd.underlying29 ti_52 zi_52 rfl rfl rfl rfl rfl (fun w hh => dwv_nil)) (fun b1 => ?_)
  refine JL_q (wants_none rfl) rfl (ex_assign rfl) ?_
  refine JL_nil ?_
  refine N_then ?_
  refine J_seq ?_
  refine J_seq ?_
  refine J_region ?_
  refine JL_q (wants_none rfl) rfl (ex_move rfl) ?_
  refine JL_bnd fun r2 hr3 => ?_
  refine JL_call (wants_none rfl) rfl Tryd.call31 rfl (Ca_self (fun _ => rfl) fun w hh => c_strings_Split _ w (fun _ hk => hk.elim) (Mxl.of hT_ hh) _ _ _ hr3) (fun x4 => ?_)
  refine JL_q (wants_none rfl) rfl (ex_len_ow 0 Tryd.underlying43 rfl rfl) ?_
  refine JL_q (wants_none rfl) rfl (ex_move rfl) ?_
  refine JL_nil ?_
  refine N_then ?_
  refine J_loop' (S := (List GDomino) × Int) (G := Value × List Nat) (F_impl_ReadDominoes_L1 r2) (fun s5 g6 => [(0, .string p0), (4, g6.1), (13, x4), (14, .int .i64 (r2.length : Int)), (15, .int .i64 s5.2)]) (fun s5 g6 => [.od 52 g6.1 s5.1 g6.2, .ow 9 x4 r2]) (([] : List GDomino), 0) ((.slice (some ⟨b1, 0, none⟩) 0 0), ([] : List Nat)) ⟨rfl, rfl, rfl, rfl, rfl, trivial⟩ [1, 0] rfl rfl (fun s5 g6 => ?_) (fun s5 g6 => ?_)
  · obtain ⟨g6_0, g6_1⟩ := g6
    unfold F_impl_ReadDominoes_L1
    refine J_seq ?_
    refine J_region ?_
    refine JL_q (wants_none rfl) rfl (ex_lss rfl rfl) ?_
    refine JL_nil ?_
    refine N_then ?_
    refine J_seq ?_
    refine J_if rfl (fun h7 => ?_) (fun h7 => ?_)
    · refine J_skip ?_
      refine N_then ?_
      refine J_seq ?_
      refine J_block ?_
      refine J_seq ?_
      refine J_region ?_
      refine JL_bnd fun y8 hy9 => ?_
      refine JL_ow_open (v := x4) 1 rfl hy9 ?_; rintro b10 cap11 rfl
      refine JL_q (wants_none rfl) rfl (ex_index_ow 1 Tryd.underlying43 ti_9 rfl rfl rfl hy9) ?_
      refine JL_st (wants_none rfl) rfl (st_load_ow_o 1 (opens_str _) ti_9 rfl rfl hy9) (fun _ => ?_)
      refine JL_q (wants_none rfl) rfl (ex_assign rfl) ?_
      refine JL_nil ?_
      refine N_then ?_
      refine J_seq ?_
      refine J_region ?_
      refine JL_q (wants_none rfl) rfl (ex_move rfl) ?_
      refine JL_bnd fun r13 hr14 => ?_
      refine JL_call (wants_none rfl) rfl Tryd.call32 rfl (Ca_of0 fun w hh => c_strings_Cut _ w (fun _ hk => hk.elim) (Mxl.of hT_ hh) _ _ _ hr14) (fun _ => ?_)
      refine JL_q (wants_none rfl) rfl (ex_move rfl) ?_
      refine JL_q (wants_none rfl) rfl (ex_extract rfl rfl) ?_
      refine JL_q (wants_none rfl) rfl (ex_extract rfl rfl) ?_
      refine JL_q (wants_none rfl) rfl (ex_extract rfl rfl) ?_
      refine JL_q (wants_none rfl) rfl (ex_assign rfl) ?_
      refine JL_q (wants_none rfl) rfl (ex_assign rfl) ?_
      refine JL_q (wants_none rfl) rfl (ex_assign rfl) ?_
      refine JL_nil ?_
      refine N_then ?_
      refine J_seq ?_
      refine J_region ?_
      refine JL_q (wants_none rfl) rfl (ex_build si_52 rfl .nil (fun w hh => trivial)) ?_
      refine JL_st (wants_none rfl) rfl (st_alloc zi_52 rfl) (fun b15 => ?_)
      refine JL_sk (wants_none rfl) (sk_store_bx' 0 ti_52 rfl rfl (fun w hh => (cv_aggs ⟨cv_slice, cv_slice, trivial⟩)) rfl rfl rfl rfl) ?_
      refine JL_nil ?_
      refine N_then ?_
      refine J_seq ?_
      refine J_region ?_
      refine JL_q (wants_none rfl) rfl (ex_move rfl) ?_
      refine JL_bnd fun r16 hr17 => ?_
      refine JL_call (wants_none rfl) rfl Tryd.call33 rfl (Ca_self (fun _ => rfl) fun w hh => c_impl_ReadWord _ w (fun _ hk => hk.elim) _ _ hr17) (fun x18 => ?_)
      refine JL_q (wants_none rfl) rfl (ex_move rfl) ?_
      refine JL_q (wants_none rfl) rfl (ex_extract rfl rfl) ?_
      refine JL_q (wants_none rfl) rfl (ex_extract rfl rfl) ?_
      refine JL_q (wants_none rfl) rfl (ex_fieldAddr fi_52_0 rfl rfl) ?_
      refine JL_sk (wants_none rfl) (sk_store_bx' 1 ti_45 rfl rfl (fun w hh => (hh.cv_ow 0 rfl)) rfl rfl rfl rfl) ?_
      refine JL_nil ?_
      refine N_then ?_
      refine J_seq ?_
      refine J_region ?_
      refine JL_q (wants_none rfl) rfl (ex_move rfl) ?_
      refine JL_bnd fun r19 hr20 => ?_
      refine JL_call (wants_none rfl) rfl Tryd.call33 rfl (Ca_self (fun _ => rfl) fun w hh => c_impl_ReadWord _ w (fun _ hk => hk.elim) _ _ hr20) (fun x21 => ?_)
      refine JL_q (wants_none rfl) rfl (ex_move rfl) ?_
      refine JL_q (wants_none rfl) rfl (ex_extract rfl rfl) ?_
      refine JL_q (wants_none rfl) rfl (ex_extract rfl rfl) ?_
      refine JL_q (wants_none rfl) rfl (ex_fieldAddr fi_52_1 rfl rfl) ?_
      refine JL_sk (wants_none rfl) (sk_store_bx' 2 ti_45 rfl rfl (fun w hh => (hh.cv_ow 0 rfl)) rfl rfl rfl rfl) ?_
      refine JL_nil ?_
      refine N_then ?_
      refine J_region ?_
      refine JL_q (wants_none rfl) rfl (ex_move rfl) ?_
      refine JL_q (wants_none rfl) rfl (ex_load_bx_agg 2 ti_52 rfl rfl rfl rfl) ?_
      refine JL_ctx (fun w hh => hh.tokf 1 rfl rfl) ?_
      refine JL_ctx (fun w hh => hh.tokf 1 rfl rfl) ?_
      refine JL_st (wants_none rfl) rfl (st_buildSlice_od (vs := [.agg #[x18, x21]]) (B := (((x18 : Value).ownBlock.toList ++ []) ++ (((x21 : Value).ownBlock.toList ++ []) ++ []))) ([(⟨r16.1, r19.1⟩ : GDomino)] : List GDomino) [1, 0] Tryd.underlying29 ti_52 zi_52 rfl rfl rfl rfl rfl (fun w hh => (dwv_cons (GDomino.dw (hh.dw 1 rfl) (hh.dw 0 rfl)) dwv_nil))) (fun b22 => ?_)
      refine JL_bnd fun z23 hz24 => ?_
      refine JL_st (wants_none rfl) rfl (st_append_od 6 0 Tryd.underlying29 ti_52 zi_52 rfl bi_52 rfl rfl rfl rfl rfl rfl hz24) (fun v25 => ?_)
      refine JL_q (wants_none rfl) rfl (ex_assign rfl) ?_
      refine JL_nil ?_
      refine N_block ?_
      refine N_then ?_
      refine J_region ?_
      refine JL_q (wants_none rfl) rfl (ex_add rfl rfl) ?_
      refine JL_q (wants_none rfl) rfl (ex_move rfl) ?_
      refine JL_nil ?_
      exact N_next' (v25, (g6_1 ++ (((x18 : Value).ownBlock.toList ++ []) ++ (((x21 : Value).ownBlock.toList ++ []) ++ [])))) ⟨rfl, rfl, rfl, rfl, rfl, trivial⟩ [6, 7] rfl rfl
    · refine J_exit ?_
      refine N_then_exit ?_
      exact N_break' (g6_0, g6_1) ⟨rfl, rfl, rfl, rfl, rfl, trivial⟩ [0, 1] rfl rfl
  · obtain ⟨g6_0, g6_1⟩ := g6
    refine N_then ?_
    refine J_seq ?_
    refine J_seq ?_
    refine J_region ?_
    refine JL_q (wants_none rfl) rfl (ex_move rfl) ?_
    refine JL_bnd fun r26 hr27 => ?_
    refine JL_call (wants_none rfl) rfl Tryd.call34 rfl (Ca_of0 fun w hh => c_impl_ValidDominoes _ w (fun _ hk => hk.elim) _ _ (hh.od0 0 rfl) _ hr27) (fun _ => ?_)
    refine JL_q (wants_none rfl) rfl (ex_not rfl) ?_
    refine JL_q (wants_none rfl) rfl (ex_move rfl) ?_
    refine JL_cond (fun h28 => ?_) (fun h28 => ?_)
    · refine JL_passed rfl rfl rfl h28 ?_
      refine JL_passed rfl rfl rfl h28 ?_
      refine JL_passed rfl rfl rfl h28 ?_
      refine JL_passed rfl rfl rfl h28 ?_
      refine JL_q (wants_none rfl) rfl (ex_pick_true rfl h28 rfl) ?_
      refine JL_nil ?_
      refine N_then ?_
      refine J_if_true rfl rfl ?_
      refine J_seq ?_
      refine J_region ?_
      refine JL_q (wants_none rfl) rfl (ex_assign rfl) ?_
      refine JL_q (wants_none rfl) rfl (ex_assign rfl) ?_
      refine JL_nil ?_
      refine N_then ?_
      refine J_ret ?_
      refine N_then_ret ?_
      refine N_ctx (fun w hh => SH.od_nil (α := GDomino) 52 hh) ?_
      exact N_ret2 rfl (rv_tmp rfl) (rv_tmp rfl) (fun w hh => ⟨((.slice none 0 0 : Value), ([] : List Nat)), rfl, hh.sel [0] rfl⟩)
    · refine JL_q (wants_some rfl rfl rfl h28) rfl (ex_move rfl) ?_
      refine JL_bnd fun r29 hr30 => ?_
      refine JL_call (wants_some rfl rfl rfl h28) rfl Tryd.call35 rfl (Ca_of0 fun w hh => c_impl_DominoesText _ w (fun _ hk => hk.elim) _ _ (hh.od0 0 rfl) _ hr30) (fun _ => ?_)
      refine JL_q (wants_some rfl rfl rfl h28) rfl (ex_move rfl) ?_
      refine JL_q (wants_some rfl rfl rfl h28) rfl (ex_neq_str rfl rfl) ?_
      refine JL_q (wants_none rfl) rfl (ex_pick_false rfl h28 rfl) ?_
      refine JL_nil ?_
      refine N_then ?_
      refine J_if rfl (fun h31 => ?_) (fun h31 => ?_)
      · refine J_seq ?_
        refine J_region ?_
        refine JL_q (wants_none rfl) rfl (ex_assign rfl) ?_
        refine JL_q (wants_none rfl) rfl (ex_assign rfl) ?_
        refine JL_nil ?_
        refine N_then ?_
        refine J_ret ?_
        refine N_then_ret ?_
        refine N_ctx (fun w hh => SH.od_nil (α := GDomino) 52 hh) ?_
        exact N_ret2 rfl (rv_tmp rfl) (rv_tmp rfl) (fun w hh => ⟨((.slice none 0 0 : Value), ([] : List Nat)), rfl, hh.sel [0] rfl⟩)
      · refine J_skip ?_
        refine N_then ?_
        refine J_seq ?_
        refine J_region ?_
        refine JL_q (wants_none rfl) rfl (ex_move rfl) ?_
        refine JL_q (wants_none rfl) rfl (ex_assign rfl) ?_
        refine JL_q (wants_none rfl) rfl (ex_assign rfl) ?_
        refine JL_nil ?_
        refine N_then ?_
        refine J_ret ?_
        exact N_ret2 rfl (rv_tmp rfl) (rv_tmp rfl) (fun w hh => ⟨(g6_0, g6_1), rfl, hh.sel [0] rfl⟩)

set_option maxHeartbeats 40000000 in
theorem c_laws_eqInt64S (A : Nat → Prop) (w : World) (hA : ∀ k, A k → k < w.heap.size) (v0_ : Value) (p0 : (List Int)) (hp0 : Rd A w v0_ p0) (v1_ : Value) (p1 : (List Int)) (hp1 : Rd A w v1_ p1) (r : Bool) (hr : F_laws_eqInt64S p0 p1 = some r) :
    Con Tryd.prog 62 [v0_, v1_] A w (fun x_ : Unit => .bool r) (fun x_ => []) := by
  refine Con_of (v := fun (r : Bool) (x_ : Unit) => .bool r) (fs := fun r x_ => []) Tryd.func62 rfl Tryd.ntmps62 rfl (((SH.start hA).start_rd rfl hp0).start_rd rfl hp1) rfl ?_ hr
  unfold F_laws_eqInt64S
  refine J_seq ?_
  refine J_region ?_
  refine JL_q (wants_none rfl) rfl (ex_assign rfl) ?_
  refine JL_nil ?_
  refine N_then ?_
  refine J_seq ?_
  refine J_seq ?_
  refine J_region ?_
  refine JL_q (wants_none rfl) rfl (ex_move rfl) ?_
  refine JL_q (wants_none rfl) rfl (ex_len_rd 1 Tryd.underlying45 rfl rfl) ?_
  refine JL_q (wants_none rfl) rfl (ex_move rfl) ?_
  refine JL_q (wants_none rfl) rfl (ex_len_rd 0 Tryd.underlying45 rfl rfl) ?_
  refine JL_q (wants_none rfl) rfl (ex_neq rfl rfl) ?_
  refine JL_nil ?_
  refine N_then ?_
  refine J_if rfl (fun h1 => ?_) (fun h1 => ?_)
  · refine J_seq ?_
    refine J_region ?_
    refine JL_q (wants_none rfl) rfl (ex_assign rfl) ?_
    refine JL_nil ?_
    refine N_then ?_
    refine J_ret ?_
    refine N_then_ret ?_
    exact N_ret1 rfl (rv_tmp rfl) (fun w hh => ⟨(), rfl, hh.sel [] rfl⟩)
  · refine J_skip ?_
    refine N_then ?_
    refine J_seq ?_
    refine J_seq ?_
    refine J_region ?_
    refine JL_q (wants_none rfl) rfl (ex_assign rfl) ?_
    refine JL_nil ?_
    refine N_then ?_
    refine J_loop' (S := Int) (G := Unit) (F_laws_eqInt64S_L1 p0 p1) (fun s2 _ => [(0, v0_), (1, v1_), (5, .int .i64 s2)]) (fun s2 _ => [.rd v0_ p0, .rd v1_ p1]) 0 () ⟨rfl, rfl, rfl, trivial⟩ [1, 0] rfl rfl (fun s2 g3 => ?_) (fun s2 g3 => ?_)
    · unfold F_laws_eqInt64S_L1
      refine J_seq ?_
      refine J_seq ?_
      refine J_region ?_
      refine JL_q (wants_none rfl) rfl (ex_move rfl) ?_
      refine JL_q (wants_none rfl) rfl (ex_move rfl) ?_
      refine JL_q (wants_none rfl) rfl (ex_len_rd 0 Tryd.underlying45 rfl rfl) ?_
      refine JL_q (wants_none rfl) rfl (ex_lss rfl rfl) ?_
      refine JL_nil ?_
      refine N_then ?_
      refine J_if rfl (fun h4 => ?_) (fun h4 => ?_)
      · refine J_skip ?_
        refine N_then ?_
        refine J_seq ?_
        refine J_block ?_
        refine J_seq ?_
        refine J_draw [] (by kernel_rfl) ?_
        refine JP_take (i := 0) [0, 1] [] rfl (by kernel_rfl) (by kernel_rfl) (by kernel_rfl) rfl rfl (wants_none rfl) rfl (ex_move rfl) ?_
        refine JP_take (i := 1) [0, 1] [] rfl (by kernel_rfl) (by kernel_rfl) (by kernel_rfl) rfl rfl (wants_none rfl) rfl (ex_move rfl) ?_
        refine JP_bnd fun y5 hy6 => ?_
        refine JP_sq (i := 2) [] rfl (by kernel_rfl) (by kernel_rfl) (by kernel_rfl) rfl (wants_none rfl) rfl (sq_index 0 Tryd.underlying45 ti_2 rfl rfl rfl hy6) (fun q7 => ?_)
        refine JP_sq (i := 3) [] rfl (by kernel_rfl) (by kernel_rfl) (by kernel_rfl) rfl (wants_none rfl) rfl (sq_load_pt_o 0 (opens_int _) ti_2 rfl rfl) (fun _ => ?_)
        refine JP_take (i := 4) [0, 1, 2] [] rfl (by kernel_rfl) (by kernel_rfl) (by kernel_rfl) rfl rfl (wants_none rfl) rfl (ex_move rfl) ?_
        refine JP_take (i := 5) [0, 1, 2] [] rfl (by kernel_rfl) (by kernel_rfl) (by kernel_rfl) rfl rfl (wants_none rfl) rfl (ex_move rfl) ?_
        refine JP_bnd fun y9 hy10 => ?_
        refine JP_sq (i := 6) [] rfl (by kernel_rfl) (by kernel_rfl) (by kernel_rfl) rfl (wants_none rfl) rfl (sq_index 2 Tryd.underlying45 ti_2 rfl rfl rfl hy10) (fun q11 => ?_)
        refine JP_sq (i := 7) [] rfl (by kernel_rfl) (by kernel_rfl) (by kernel_rfl) rfl (wants_none rfl) rfl (sq_load_pt_o 0 (opens_int _) ti_2 rfl rfl) (fun _ => ?_)
        refine JP_take (i := 8) [0, 1, 2, 3] [] rfl (by kernel_rfl) (by kernel_rfl) (by kernel_rfl) rfl rfl (wants_none rfl) rfl (ex_neq rfl rfl) ?_
        refine JP_go [] [] rfl rfl rfl (fun _ _ _ => ?_)
        refine JD_done (by kernel_rfl) ?_
        refine N_then ?_
        refine J_if rfl (fun h13 => ?_) (fun h13 => ?_)
        · refine J_seq ?_
          refine J_region ?_
          refine JL_q (wants_none rfl) rfl (ex_assign rfl) ?_
          refine JL_nil ?_
          refine N_then ?_
          refine J_ret ?_
          refine N_block_ret ?_
          refine N_then_ret ?_
          refine N_round_ret ?_
          refine N_then_ret ?_
          exact N_ret1 rfl (rv_tmp rfl) (fun w hh => ⟨(), rfl, hh.sel [] rfl⟩)
        · refine J_skip ?_
          refine N_block ?_
          refine N_then ?_
          refine J_region ?_
          refine JL_q (wants_none rfl) rfl (ex_move rfl) ?_
          refine JL_q (wants_none rfl) rfl (ex_add rfl rfl) ?_
          refine JL_q (wants_none rfl) rfl (ex_assign rfl) ?_
          refine JL_nil ?_
          exact N_next' () ⟨rfl, rfl, rfl, trivial⟩ [2, 3] rfl rfl
      · refine J_exit ?_
        refine N_then_exit ?_
        exact N_break' () ⟨rfl, rfl, rfl, trivial⟩ [0, 1] rfl rfl
    · refine N_then ?_
      refine J_seq ?_
      refine J_region ?_
      refine JL_q (wants_none rfl) rfl (ex_assign rfl) ?_
      refine JL_nil ?_
      refine N_then ?_
      refine J_ret ?_
      exact N_ret1 rfl (rv_tmp rfl) (fun w hh => ⟨(), rfl, hh.sel [] rfl⟩)

set_option maxHeartbeats 40000000 in
theorem c_laws_eqDomino (A : Nat → Prop) (w : World) (hA : ∀ k, A k → k < w.heap.size) (v0_ : Value) (p0 : GDomino) (hp0 : Rd A w v0_ p0) (v1_ : Value) (p1 : GDomino) (hp1 : Rd A w v1_ p1) (r : Bool) (hr : F_laws_eqDomino p0 p1 = some r) :
    Con Tryd.prog 36 [v0_, v1_] A w (fun x_ : Unit => .bool r) (fun x_ => []) := by
  obtain ⟨v0_0, v0_1, rfl, hp0_0, hp0_1⟩ := GDomino.open hp0
  obtain ⟨v1_0, v1_1, rfl, hp1_0, hp1_1⟩ := GDomino.open hp1
  refine Con_of (v := fun (r : Bool) (x_ : Unit) => .bool r) (fs := fun r x_ => []) Tryd.func36 rfl Tryd.ntmps36 rfl (((((SH.start hA).start_rd rfl hp0_0).start_rd rfl hp0_1).start_rd rfl hp1_0).start_rd rfl hp1_1) rfl ?_ hr
  unfold F_laws_eqDomino
  refine J_seq ?_
  refine J_region ?_
  refine JL_st (wants_none rfl) rfl (st_box' rfl (fun w hh => (cv_aggs ⟨(hh.cv 3 rfl), (hh.cv 2 rfl), trivial⟩))) (fun b1 => ?_)
  refine JL_st (wants_none rfl) rfl (st_box' rfl (fun w hh => (cv_aggs ⟨(hh.cv 2 rfl), (hh.cv 1 rfl), trivial⟩))) (fun b2 => ?_)
  refine JL_q (wants_none rfl) rfl (ex_assign rfl) ?_
  refine JL_nil ?_
  refine N_then ?_
  refine J_seq ?_
  refine J_seq ?_
  refine J_region ?_
  refine JL_q (wants_none rfl) rfl (ex_fieldAddr fi_52_0 rfl rfl) ?_
  refine JL_q (wants_none rfl) rfl (ex_load_bx 1 ti_45 rfl rfl rfl) ?_
  refine JL_q (wants_none rfl) rfl (ex_fieldAddr fi_52_0 rfl rfl) ?_
  refine JL_q (wants_none rfl) rfl (ex_load_bx 0 ti_45 rfl rfl rfl) ?_
  refine JL_bnd fun r3 hr4 => ?_
  refine JL_call (wants_none rfl) rfl Tryd.call62 rfl (Ca_of0 fun w hh => c_laws_eqInt64S _ w (fun _ hk => hk.elim) _ _ (hh.rd0 5 rfl) _ _ (hh.rd0 3 rfl) _ hr4) (fun _ => ?_)
  refine JL_q (wants_none rfl) rfl (ex_not rfl) ?_
  refine JL_nil ?_
  refine N_then ?_
  refine J_if rfl (fun h5 => ?_) (fun h5 => ?_)
  · refine J_seq ?_
    refine J_region ?_
    refine JL_q (wants_none rfl) rfl (ex_assign rfl) ?_
    refine JL_nil ?_
    refine N_then ?_
    refine J_ret ?_
    refine N_then_ret ?_
    exact N_ret1 rfl (rv_tmp rfl) (fun w hh => ⟨(), rfl, hh.sel [] rfl⟩)
  · refine J_skip ?_
    refine N_then ?_
    refine J_seq ?_
    refine J_seq ?_
    refine J_region ?_
    refine JL_q (wants_none rfl) rfl (ex_fieldAddr fi_52_1 rfl rfl) ?_
    refine JL_q (wants_none rfl) rfl (ex_load_bx 1 ti_45 rfl rfl rfl) ?_
    refine JL_q (wants_none rfl) rfl (ex_fieldAddr fi_52_1 rfl rfl) ?_
    refine JL_q (wants_none rfl) rfl (ex_load_bx 0 ti_45 rfl rfl rfl) ?_
    refine JL_bnd fun r6 hr7 => ?_
    refine JL_call (wants_none rfl) rfl Tryd.call62 rfl (Ca_of0 fun w hh => c_laws_eqInt64S _ w (fun _ hk => hk.elim) _ _ (hh.rd0 4 rfl) _ _ (hh.rd0 2 rfl) _ hr7) (fun _ => ?_)
    refine JL_q (wants_none rfl) rfl (ex_not rfl) ?_
    refine JL_nil ?_
    refine N_then ?_
    refine J_if rfl (fun h8 => ?_) (fun h8 => ?_)
    · refine J_seq ?_
      refine J_region ?_
      refine JL_q (wants_none rfl) rfl (ex_assign rfl) ?_
      refine JL_nil ?_
      refine N_then ?_
      refine J_ret ?_
      refine N_then_ret ?_
      exact N_ret1 rfl (rv_tmp rfl) (fun w hh => ⟨(), rfl, hh.sel [] rfl⟩)
    · refine J_skip ?_
      refine N_then ?_
      refine J_seq ?_
      refine J_region ?_
      refine JL_q (wants_none rfl) rfl (ex_assign rfl) ?_
      refine JL_nil ?_
      refine N_then ?_
      refine J_ret ?_
      exact N_ret1 rfl (rv_tmp rfl) (fun w hh => ⟨(), rfl, hh.sel [] rfl⟩)

set_option maxHeartbeats 40000000 in
theorem c_laws_eqDominoS (A : Nat → Prop) (w : World) (hA : ∀ k, A k → k < w.heap.size) (v0_ : Value) (p0 : (List GDomino)) (hp0 : Rd A w v0_ p0) (v1_ : Value) (p1 : (List GDomino)) (hp1 : Rd A w v1_ p1) (r : Bool) (hr : F_laws_eqDominoS p0 p1 = some r) :
    Con Tryd.prog 13 [v0_, v1_] A w (fun x_ : Unit => .bool r) (fun x_ => []) := by
  refine Con_of (v := fun (r : Bool) (x_ : Unit) => .bool r) (fs := fun r x_ => []) Tryd.func13 rfl Tryd.ntmps13 rfl (((SH.start hA).start_rd rfl hp0).start_rd rfl hp1) rfl ?_ hr
  unfold F_laws_eqDominoS
  refine J_seq ?_
  refine J_region ?_
  refine JL_q (wants_none rfl) rfl (ex_assign rfl) ?_
  refine JL_nil ?_
  refine N_then ?_
  refine J_seq ?_
  refine J_seq ?_
  refine J_region ?_
  refine JL_q (wants_none rfl) rfl (ex_move rfl) ?_
  refine JL_q (wants_none rfl) rfl (ex_len_rd 1 Tryd.underlying29 rfl rfl) ?_
  refine JL_q (wants_none rfl) rfl (ex_move rfl) ?_
  refine JL_q (wants_none rfl) rfl (ex_len_rd 0 Tryd.underlying29 rfl rfl) ?_
  refine JL_q (wants_none rfl) rfl (ex_neq rfl rfl) ?_
  refine JL_nil ?_
  refine N_then ?_
  refine J_if rfl (fun h1 => ?_) (fun h1 => ?_)
  · refine J_seq ?_
    refine J_region ?_
    refine JL_q (wants_none rfl) rfl (ex_assign rfl) ?_
    refine JL_nil ?_
    refine N_then ?_
    refine J_ret ?_
    refine N_then_ret ?_
    exact N_ret1 rfl (rv_tmp rfl) (fun w hh => ⟨(), rfl, hh.sel [] rfl⟩)
  · refine J_skip ?_
    refine N_then ?_
    refine J_seq ?_
    refine J_seq ?_
    refine J_region ?_
    refine JL_q (wants_none rfl) rfl (ex_assign rfl) ?_
    refine JL_nil ?_
    refine N_then ?_
    refine J_loop' (S := Int) (G := Unit) (F_laws_eqDominoS_L1 p0 p1) (fun s2 _ => [(0, v0_), (1, v1_), (5, .int .i64 s2)]) (fun s2 _ => [.rd v0_ p0, .rd v1_ p1]) 0 () ⟨rfl, rfl, rfl, trivial⟩ [1, 0] rfl rfl (fun s2 g3 => ?_) (fun s2 g3 => ?_)
    · unfold F_laws_eqDominoS_L1
      refine J_seq ?_
      refine J_seq ?_
      refine J_region ?_
      refine JL_q (wants_none rfl) rfl (ex_move rfl) ?_
      refine JL_q (wants_none rfl) rfl (ex_move rfl) ?_
      refine JL_q (wants_none rfl) rfl (ex_len_rd 0 Tryd.underlying29 rfl rfl) ?_
      refine JL_q (wants_none rfl) rfl (ex_lss rfl rfl) ?_
      refine JL_nil ?_
      refine N_then ?_
      refine J_if rfl (fun h4 => ?_) (fun h4 => ?_)
      · refine J_skip ?_
        refine N_then ?_
        refine J_seq ?_
        refine J_block ?_
        refine J_seq ?_
        refine J_draw [] (by kernel_rfl) ?_
        refine JP_take (i := 0) [0, 1] [] rfl (by kernel_rfl) (by kernel_rfl) (by kernel_rfl) rfl rfl (wants_none rfl) rfl (ex_move rfl) ?_
        refine JP_take (i := 1) [0, 1] [] rfl (by kernel_rfl) (by kernel_rfl) (by kernel_rfl) rfl rfl (wants_none rfl) rfl (ex_move rfl) ?_
        refine JP_bnd fun y5 hy6 => ?_
        refine JP_sq (i := 2) [] rfl (by kernel_rfl) (by kernel_rfl) (by kernel_rfl) rfl (wants_none rfl) rfl (sq_index 0 Tryd.underlying29 ti_52 rfl rfl rfl hy6) (fun q7 => ?_)
        refine JP_sq (i := 3) [] rfl (by kernel_rfl) (by kernel_rfl) (by kernel_rfl) rfl (wants_none rfl) rfl (sq_load_pt_o 0 (GDomino.opens _) ti_52 rfl rfl) (fun v8 => ?_)
        refine JP_take (i := 4) [0, 1, 2, 3, 4] [] rfl (by kernel_rfl) (by kernel_rfl) (by kernel_rfl) rfl rfl (wants_none rfl) rfl (ex_move rfl) ?_
        refine JP_take (i := 5) [0, 1, 2, 3, 4] [] rfl (by kernel_rfl) (by kernel_rfl) (by kernel_rfl) rfl rfl (wants_none rfl) rfl (ex_move rfl) ?_
        refine JP_bnd fun y9 hy10 => ?_
        refine JP_sq (i := 6) [] rfl (by kernel_rfl) (by kernel_rfl) (by kernel_rfl) rfl (wants_none rfl) rfl (sq_index 4 Tryd.underlying29 ti_52 rfl rfl rfl hy10) (fun q11 => ?_)
        refine JP_sq (i := 7) [] rfl (by kernel_rfl) (by kernel_rfl) (by kernel_rfl) rfl (wants_none rfl) rfl (sq_load_pt_o 0 (GDomino.opens _) ti_52 rfl rfl) (fun v12 => ?_)
        refine JP_go [0, 1, 2, 3, 4, 5, 6, 7] [] rfl rfl rfl (fun w14 h1_15 hp13 => ?_)
        refine JD_bnd fun r16 hr17 => ?_
        refine JD_one (i := 8) (by kernel_rfl) ?_
        refine JO_call rfl (wants_none rfl) rfl Tryd.call36 rfl (Ca_of0 fun w hh => c_laws_eqDomino _ w (fun _ hk => hk.elim) _ _ (GDomino.rdmk (hh.rd0 3 rfl) (hh.rd0 4 rfl)) _ _ (GDomino.rdmk (hh.rd0 0 rfl) (hh.rd0 1 rfl)) _ hr17) (fun _ => ?_)
        refine JD_take (i := 9) hp13 rfl (by kernel_rfl) (by kernel_rfl) (by kernel_rfl) (wants_none rfl) rfl (ex_not rfl) ?_
        refine JD_done (by kernel_rfl) ?_
        refine N_then ?_
        refine J_if rfl (fun h18 => ?_) (fun h18 => ?_)
        · refine J_seq ?_
          refine J_region ?_
          refine JL_q (wants_none rfl) rfl (ex_assign rfl) ?_
          refine JL_nil ?_
          refine N_then ?_
          refine J_ret ?_
          refine N_block_ret ?_
          refine N_then_ret ?_
          refine N_round_ret ?_
          refine N_then_ret ?_
          exact N_ret1 rfl (rv_tmp rfl) (fun w hh => ⟨(), rfl, hh.sel [] rfl⟩)
        · refine J_skip ?_
          refine N_block ?_
          refine N_then ?_
          refine J_region ?_
          refine JL_q (wants_none rfl) rfl (ex_move rfl) ?_
          refine JL_q (wants_none rfl) rfl (ex_add rfl rfl) ?_
          refine JL_q (wants_none rfl) rfl (ex_assign rfl) ?_
          refine JL_nil ?_
          exact N_next' () ⟨rfl, rfl, rfl, trivial⟩ [6, 7] rfl rfl
      · refine J_exit ?_
        refine N_then_exit ?_
        exact N_break' () ⟨rfl, rfl, rfl, trivial⟩ [0, 1] rfl rfl
    · refine N_then ?_
      refine J_seq ?_
      refine J_region ?_
      refine JL_q (wants_none rfl) rfl (ex_assign rfl) ?_
      refine JL_nil ?_
      refine N_then ?_
      refine J_ret ?_
      exact N_ret1 rfl (rv_tmp rfl) (fun w hh => ⟨(), rfl, hh.sel [] rfl⟩)

theorem mk_laws_markInt64S : MarkCon Tryd.prog 37 F_laws_markInt64S := by
  intro w v0_ p0 B_ p1 r hd_ hn_ hr
  refine (ConM_of (vs := [v0_, .int .i64 p1]) (v := fun (r : Int × (List Int)) (_ : Unit) => .int .i64 r.1) (fs := fun r _ => [mkr v0_ r.2 B_, rest w B_]) Tryd.func37 rfl Tryd.ntmps37 rfl (mark_start hd_ hn_) rfl ?_ hr).mono (fun e w2 h_ => by obtain ⟨_, he, hk⟩ := h_; exact ⟨he, mark_end hk⟩)
  unfold F_laws_markInt64S
  refine J_seq ?_
  refine J_region ?_
  refine JL_q (wants_none rfl) rfl (ex_assign rfl) ?_
  refine JL_nil ?_
  refine N_then ?_
  refine J_seq ?_
  refine J_seq ?_
  refine J_region ?_
  refine JL_q (wants_none rfl) rfl (ex_assign rfl) ?_
  refine JL_nil ?_
  refine N_then ?_
  refine J_loop' (S := (List Int) × Int × Int) (G := Unit) (F_laws_markInt64S_L1) (fun s1 _ => [(0, v0_), (1, .int .i64 s1.2.1), (5, .int .i64 s1.2.2)]) (fun s1 _ => [rest w B_, mkr v0_ s1.1 B_]) (p0, p1, 0) () ⟨rfl, rfl, rfl, trivial⟩ [1, 0] rfl rfl (fun s1 g2 => ?_) (fun s1 g2 => ?_)
  · unfold F_laws_markInt64S_L1
    refine J_seq ?_
    refine J_seq ?_
    refine J_region ?_
    refine JL_q (wants_none rfl) rfl (ex_move rfl) ?_
    refine JL_q (wants_none rfl) rfl (ex_move rfl) ?_
    refine JL_q (wants_none rfl) rfl (ex_len_mk 1 Tryd.underlying45 rfl rfl) ?_
    refine JL_q (wants_none rfl) rfl (ex_lss rfl rfl) ?_
    refine JL_nil ?_
    refine N_then ?_
    refine J_if rfl (fun h3 => ?_) (fun h3 => ?_)
    · refine J_skip ?_
      refine N_then ?_
      refine J_seq ?_
      refine J_block ?_
      refine J_seq ?_
      refine J_region ?_
      refine JL_q (wants_none rfl) rfl (ex_move rfl) ?_
      refine JL_q (wants_none rfl) rfl (ex_move rfl) ?_
      refine JL_q (wants_none rfl) rfl (ex_move rfl) ?_
      refine JL_bnd fun y4 hy5 => ?_
      refine JL_mk_open 1 rfl hy5 ?_; rintro b6 o8 cap7 rfl
      refine JL_q (wants_none rfl) rfl (ex_index_lit Tryd.underlying45 ti_2 rfl rfl hy5 (by first | rfl | simp)) ?_
      refine JL_sk (wants_none rfl) (sk_store_mk 1 (fs_self _) ti_2 rfl rfl rfl hy5) ?_
      refine JL_nil ?_
      refine N_then ?_
      refine J_region ?_
      refine JL_q (wants_none rfl) rfl (ex_move rfl) ?_
      refine JL_q (wants_none rfl) rfl (ex_add rfl rfl) ?_
      refine JL_q (wants_none rfl) rfl (ex_assign rfl) ?_
      refine JL_nil ?_
      refine N_block ?_
      refine N_then ?_
      refine J_region ?_
      refine JL_q (wants_none rfl) rfl (ex_move rfl) ?_
      refine JL_q (wants_none rfl) rfl (ex_add rfl rfl) ?_
      refine JL_q (wants_none rfl) rfl (ex_assign rfl) ?_
      refine JL_nil ?_
      exact N_next' () ⟨rfl, rfl, rfl, trivial⟩ [0, 1] rfl rfl
    · refine J_exit ?_
      refine N_then_exit ?_
      exact N_break' () ⟨rfl, rfl, rfl, trivial⟩ [0, 1] rfl rfl
  · refine N_then ?_
    refine J_seq ?_
    refine J_region ?_
    refine JL_q (wants_none rfl) rfl (ex_move rfl) ?_
    refine JL_q (wants_none rfl) rfl (ex_assign rfl) ?_
    refine JL_nil ?_
    refine N_then ?_
    refine J_ret ?_
    exact N_ret1 rfl (rv_tmp rfl) (fun w hh => ⟨(), rfl, hh.sel [1, 0] rfl⟩)

theorem mk_laws_markDominoS : MarkCon Tryd.prog 14 F_laws_markDominoS := by
  intro w v0_ p0 B_ p1 r hd_ hn_ hr
  refine (ConM_of (vs := [v0_, .int .i64 p1]) (v := fun (r : Int × (List GDomino)) (_ : Unit) => .int .i64 r.1) (fs := fun r _ => [mkr v0_ r.2 B_, rest w B_]) Tryd.func14 rfl Tryd.ntmps14 rfl (mark_start hd_ hn_) rfl ?_ hr).mono (fun e w2 h_ => by obtain ⟨_, he, hk⟩ := h_; exact ⟨he, mark_end hk⟩)
  unfold F_laws_markDominoS
  refine J_seq ?_
  refine J_region ?_
  refine JL_q (wants_none rfl) rfl (ex_assign rfl) ?_
  refine JL_nil ?_
  refine N_then ?_
  refine J_seq ?_
  refine J_seq ?_
  refine J_region ?_
  refine JL_q (wants_none rfl) rfl (ex_assign rfl) ?_
  refine JL_nil ?_
  refine N_then ?_
  refine J_loop' (S := (List GDomino) × Int × Int) (G := Unit) (F_laws_markDominoS_L1) (fun s1 _ => [(0, v0_), (1, .int .i64 s1.2.1), (5, .int .i64 s1.2.2)]) (fun s1 _ => [rest w B_, mkr v0_ s1.1 B_]) (p0, p1, 0) () ⟨rfl, rfl, rfl, trivial⟩ [1, 0] rfl rfl (fun s1 g2 => ?_) (fun s1 g2 => ?_)
  · unfold F_laws_markDominoS_L1
    refine J_seq ?_
    refine J_seq ?_
    refine J_region ?_
    refine JL_q (wants_none rfl) rfl (ex_move rfl) ?_
    refine JL_q (wants_none rfl) rfl (ex_move rfl) ?_
    refine JL_q (wants_none rfl) rfl (ex_len_mk 1 Tryd.underlying29 rfl rfl) ?_
    refine JL_q (wants_none rfl) rfl (ex_lss rfl rfl) ?_
    refine JL_nil ?_
    refine N_then ?_
    refine J_if rfl (fun h3 => ?_) (fun h3 => ?_)
    · refine J_skip ?_
      refine N_then ?_
      refine J_seq ?_
      refine J_block ?_
      refine J_seq ?_
      refine J_region ?_
      refine JL_q (wants_none rfl) rfl (ex_move rfl) ?_
      refine JL_q (wants_none rfl) rfl (ex_move rfl) ?_
      refine JL_bnd fun y4 hy5 => ?_
      refine JL_mk_open 1 rfl hy5 ?_; rintro b6 o8 cap7 rfl
      refine JL_q (wants_none rfl) rfl (ex_index_lit Tryd.underlying29 ti_52 rfl rfl hy5 (by first | rfl | simp)) ?_
      refine JL_q (wants_none rfl) rfl (ex_fieldAddr fi_52_0 rfl rfl) ?_
      refine JL_st (wants_none rfl) rfl (st_load_mk 1 (GDomino.fc_Top _) ti_45 rfl rfl hy5) (fun u9 => ?_)
      refine JL_q (wants_none rfl) rfl (ex_move rfl) ?_
      refine JL_bnd fun r10 hr11 => ?_
      refine JL_markc 1 mk_laws_markInt64S (GDomino.fc_Top _) (wants_none rfl) rfl Tryd.call37 rfl rfl hy5 hr11 ?_
      refine JL_q (wants_none rfl) rfl (ex_assign rfl) ?_
      refine JL_nil ?_
      refine N_then ?_
      refine J_region ?_
      refine JL_q (wants_none rfl) rfl (ex_move rfl) ?_
      refine JL_q (wants_none rfl) rfl (ex_move rfl) ?_
      refine JL_bnd fun y12 hy13 => ?_
      refine JL_q (wants_none rfl) rfl (ex_index_lit Tryd.underlying29 ti_52 rfl rfl hy13 (by first | rfl | simp)) ?_
      refine JL_q (wants_none rfl) rfl (ex_fieldAddr fi_52_1 rfl rfl) ?_
      refine JL_st (wants_none rfl) rfl (st_load_mk 1 (GDomino.fc_Bottom _) ti_45 rfl rfl hy13) (fun u14 => ?_)
      refine JL_q (wants_none rfl) rfl (ex_move rfl) ?_
      refine JL_bnd fun r15 hr16 => ?_
      refine JL_markc 1 mk_laws_markInt64S (GDomino.fc_Bottom _) (wants_none rfl) rfl Tryd.call37 rfl rfl hy13 hr16 ?_
      refine JL_q (wants_none rfl) rfl (ex_assign rfl) ?_
      refine JL_nil ?_
      refine N_block ?_
      refine N_then ?_
      refine J_region ?_
      refine JL_q (wants_none rfl) rfl (ex_move rfl) ?_
      refine JL_q (wants_none rfl) rfl (ex_add rfl rfl) ?_
      refine JL_q (wants_none rfl) rfl (ex_assign rfl) ?_
      refine JL_nil ?_
      exact N_next' () ⟨rfl, rfl, rfl, trivial⟩ [0, 1] rfl rfl
    · refine J_exit ?_
      refine N_then_exit ?_
      exact N_break' () ⟨rfl, rfl, rfl, trivial⟩ [0, 1] rfl rfl
  · refine N_then ?_
    refine J_seq ?_
    refine J_region ?_
    refine JL_q (wants_none rfl) rfl (ex_move rfl) ?_
    refine JL_q (wants_none rfl) rfl (ex_assign rfl) ?_
    refine JL_nil ?_
    refine N_then ?_
    refine J_ret ?_
    exact N_ret1 rfl (rv_tmp rfl) (fun w hh => ⟨(), rfl, hh.sel [1, 0] rfl⟩)

set_option maxHeartbeats 40000000 in
theorem c_laws_heldInt64S (A : Nat → Prop) (w : World) (hA : ∀ k, A k → k < w.heap.size) (v0_ : Value) (p0 : (List Int)) (hp0 : Rd A w v0_ p0) (p1 : Int) (r : Int) (hr : F_laws_heldInt64S p0 p1 = some r) :
    Con Tryd.prog 38 [v0_, .int .i64 p1] A w (fun x_ : Unit => .int .i64 r) (fun x_ => []) := by
  refine Con_of (v := fun (r : Int) (x_ : Unit) => .int .i64 r) (fs := fun r x_ => []) Tryd.func38 rfl Tryd.ntmps38 rfl ((SH.start hA).start_rd rfl hp0) rfl ?_ hr
  unfold F_laws_heldInt64S
  refine J_seq ?_
  refine J_region ?_
  refine JL_q (wants_none rfl) rfl (ex_assign rfl) ?_
  refine JL_nil ?_
  refine N_then ?_
  refine J_seq ?_
  refine J_seq ?_
  refine J_region ?_
  refine JL_q (wants_none rfl) rfl (ex_assign rfl) ?_
  refine JL_nil ?_
  refine N_then ?_
  refine J_loop' (S := Int × Int) (G := Unit) (F_laws_heldInt64S_L1 p0) (fun s1 _ => [(0, v0_), (1, .int .i64 s1.1), (5, .int .i64 s1.2)]) (fun s1 _ => [.rd v0_ p0]) (p1, 0) () ⟨rfl, rfl, rfl, trivial⟩ [0] rfl rfl (fun s1 g2 => ?_) (fun s1 g2 => ?_)
  · unfold F_laws_heldInt64S_L1
    refine J_seq ?_
    refine J_seq ?_
    refine J_region ?_
    refine JL_q (wants_none rfl) rfl (ex_move rfl) ?_
    refine JL_q (wants_none rfl) rfl (ex_move rfl) ?_
    refine JL_q (wants_none rfl) rfl (ex_len_rd 0 Tryd.underlying45 rfl rfl) ?_
    refine JL_q (wants_none rfl) rfl (ex_lss rfl rfl) ?_
    refine JL_nil ?_
    refine N_then ?_
    refine J_if rfl (fun h3 => ?_) (fun h3 => ?_)
    · refine J_skip ?_
      refine N_then ?_
      refine J_seq ?_
      refine J_block ?_
      refine J_seq ?_
      refine J_seq ?_
      refine J_region ?_
      refine JL_q (wants_none rfl) rfl (ex_move rfl) ?_
      refine JL_q (wants_none rfl) rfl (ex_move rfl) ?_
      refine JL_bnd fun y4 hy5 => ?_
      refine JL_st (wants_none rfl) rfl (st_index 0 Tryd.underlying45 ti_2 rfl rfl rfl hy5) (fun q6 => ?_)
      refine JL_st (wants_none rfl) rfl (st_load_pt_o 0 (opens_int _) ti_2 rfl rfl) (fun _ => ?_)
      refine JL_q (wants_none rfl) rfl (ex_move rfl) ?_
      refine JL_q (wants_none rfl) rfl (ex_neq rfl rfl) ?_
      refine JL_nil ?_
      refine N_then ?_
      refine J_if rfl (fun h8 => ?_) (fun h8 => ?_)
      · refine J_seq ?_
        refine J_region ?_
        refine JL_q (wants_none rfl) rfl (ex_assign rfl) ?_
        refine JL_nil ?_
        refine N_then ?_
        refine J_ret ?_
        refine N_then_ret ?_
        refine N_block_ret ?_
        refine N_then_ret ?_
        refine N_round_ret ?_
        refine N_then_ret ?_
        exact N_ret1 rfl (rv_tmp rfl) (fun w hh => ⟨(), rfl, hh.sel [] rfl⟩)
      · refine J_skip ?_
        refine N_then ?_
        refine J_region ?_
        refine JL_q (wants_none rfl) rfl (ex_move rfl) ?_
        refine JL_q (wants_none rfl) rfl (ex_add rfl rfl) ?_
        refine JL_q (wants_none rfl) rfl (ex_assign rfl) ?_
        refine JL_nil ?_
        refine N_block ?_
        refine N_then ?_
        refine J_region ?_
        refine JL_q (wants_none rfl) rfl (ex_move rfl) ?_
        refine JL_q (wants_none rfl) rfl (ex_add rfl rfl) ?_
        refine JL_q (wants_none rfl) rfl (ex_assign rfl) ?_
        refine JL_nil ?_
        exact N_next' () ⟨rfl, rfl, rfl, trivial⟩ [1] rfl rfl
    · refine J_exit ?_
      refine N_then_exit ?_
      exact N_break' () ⟨rfl, rfl, rfl, trivial⟩ [0] rfl rfl
  · refine N_then ?_
    refine J_seq ?_
    refine J_region ?_
    refine JL_q (wants_none rfl) rfl (ex_move rfl) ?_
    refine JL_q (wants_none rfl) rfl (ex_assign rfl) ?_
    refine JL_nil ?_
    refine N_then ?_
    refine J_ret ?_
    exact N_ret1 rfl (rv_tmp rfl) (fun w hh => ⟨(), rfl, hh.sel [] rfl⟩)

set_option maxHeartbeats 40000000 in
theorem c_laws_heldDominoS (A : Nat → Prop) (w : World) (hA : ∀ k, A k → k < w.heap.size) (v0_ : Value) (p0 : (List GDomino)) (hp0 : Rd A w v0_ p0) (p1 : Int) (r : Int) (hr : F_laws_heldDominoS p0 p1 = some r) :
    Con Tryd.prog 15 [v0_, .int .i64 p1] A w (fun x_ : Unit => .int .i64 r) (fun x_ => []) := by
  refine Con_of (v := fun (r : Int) (x_ : Unit) => .int .i64 r) (fs := fun r x_ => []) Tryd.func15 rfl Tryd.ntmps15 rfl ((SH.start hA).start_rd rfl hp0) rfl ?_ hr
  unfold F_laws_heldDominoS
  refine J_seq ?_
  refine J_region ?_
  refine JL_q (wants_none rfl) rfl (ex_assign rfl) ?_
  refine JL_nil ?_
  refine N_then ?_
  refine J_seq ?_
  refine J_seq ?_
  refine J_region ?_
  refine JL_q (wants_none rfl) rfl (ex_assign rfl) ?_
  refine JL_nil ?_
  refine N_then ?_
  refine J_loop' (S := Int × Int) (G := Unit) (F_laws_heldDominoS_L1 p0) (fun s1 _ => [(0, v0_), (1, .int .i64 s1.1), (5, .int .i64 s1.2)]) (fun s1 _ => [.rd v0_ p0]) (p1, 0) () ⟨rfl, rfl, rfl, trivial⟩ [0] rfl rfl (fun s1 g2 => ?_) (fun s1 g2 => ?_)
  · unfold F_laws_heldDominoS_L1
    refine J_seq ?_
    refine J_seq ?_
    refine J_region ?_
    refine JL_q (wants_none rfl) rfl (ex_move rfl) ?_
    refine JL_q (wants_none rfl) rfl (ex_move rfl) ?_
    refine JL_q (wants_none rfl) rfl (ex_len_rd 0 Tryd.underlying29 rfl rfl) ?_
    refine JL_q (wants_none rfl) rfl (ex_lss rfl rfl) ?_
    refine JL_nil ?_
    refine N_then ?_
    refine J_if rfl (fun h3 => ?_) (fun h3 => ?_)
    · refine J_skip ?_
      refine N_then ?_
      refine J_seq ?_
      refine J_block ?_
      refine J_seq ?_
      refine J_region ?_
      refine JL_q (wants_none rfl) rfl (ex_move rfl) ?_
      refine JL_q (wants_none rfl) rfl (ex_move rfl) ?_
      refine JL_bnd fun y4 hy5 => ?_
      refine JL_st (wants_none rfl) rfl (st_index 0 Tryd.underlying29 ti_52 rfl rfl rfl hy5) (fun q6 => ?_)
      refine JL_st (wants_none rfl) rfl (st_field_pt 0 (GDomino.at_Top _) fi_52_0 rfl rfl rfl) (fun q7 => ?_)
      refine JL_st (wants_none rfl) rfl (st_load_pt_o 0 (opens_sl _) ti_45 rfl rfl) (fun v8 => ?_)
      refine JL_q (wants_none rfl) rfl (ex_move rfl) ?_
      refine JL_bnd fun r9 hr10 => ?_
      refine JL_call (wants_none rfl) rfl Tryd.call38 rfl (Ca_of0 fun w hh => c_laws_heldInt64S _ w (fun _ hk => hk.elim) _ _ (hh.rd0 0 rfl) _ _ hr10) (fun _ => ?_)
      refine JL_q (wants_none rfl) rfl (ex_assign rfl) ?_
      refine JL_nil ?_
      refine N_then ?_
      refine J_seq ?_
      refine J_seq ?_
      refine J_region ?_
      refine JL_q (wants_none rfl) rfl (ex_move rfl) ?_
      refine JL_q (wants_none rfl) rfl (ex_lss rfl rfl) ?_
      refine JL_nil ?_
      refine N_then ?_
      refine J_if rfl (fun h11 => ?_) (fun h11 => ?_)
      · refine J_seq ?_
        refine J_region ?_
        refine JL_q (wants_none rfl) rfl (ex_assign rfl) ?_
        refine JL_nil ?_
        refine N_then ?_
        refine J_ret ?_
        refine N_then_ret ?_
        refine N_block_ret ?_
        refine N_then_ret ?_
        refine N_round_ret ?_
        refine N_then_ret ?_
        exact N_ret1 rfl (rv_tmp rfl) (fun w hh => ⟨(), rfl, hh.sel [] rfl⟩)
      · refine J_skip ?_
        refine N_then ?_
        refine J_seq ?_
        refine J_region ?_
        refine JL_q (wants_none rfl) rfl (ex_move rfl) ?_
        refine JL_q (wants_none rfl) rfl (ex_move rfl) ?_
        refine JL_bnd fun y12 hy13 => ?_
        refine JL_st (wants_none rfl) rfl (st_index 3 Tryd.underlying29 ti_52 rfl rfl rfl hy13) (fun q14 => ?_)
        refine JL_st (wants_none rfl) rfl (st_field_pt 0 (GDomino.at_Bottom _) fi_52_1 rfl rfl rfl) (fun q15 => ?_)
        refine JL_st (wants_none rfl) rfl (st_load_pt_o 0 (opens_sl _) ti_45 rfl rfl) (fun v16 => ?_)
        refine JL_q (wants_none rfl) rfl (ex_move rfl) ?_
        refine JL_bnd fun r17 hr18 => ?_
        refine JL_call (wants_none rfl) rfl Tryd.call38 rfl (Ca_of0 fun w hh => c_laws_heldInt64S _ w (fun _ hk => hk.elim) _ _ (hh.rd0 0 rfl) _ _ hr18) (fun _ => ?_)
        refine JL_q (wants_none rfl) rfl (ex_assign rfl) ?_
        refine JL_nil ?_
        refine N_then ?_
        refine J_seq ?_
        refine J_region ?_
        refine JL_q (wants_none rfl) rfl (ex_move rfl) ?_
        refine JL_q (wants_none rfl) rfl (ex_lss rfl rfl) ?_
        refine JL_nil ?_
        refine N_then ?_
        refine J_if rfl (fun h19 => ?_) (fun h19 => ?_)
        · refine J_seq ?_
          refine J_region ?_
          refine JL_q (wants_none rfl) rfl (ex_assign rfl) ?_
          refine JL_nil ?_
          refine N_then ?_
          refine J_ret ?_
          refine N_block_ret ?_
          refine N_then_ret ?_
          refine N_round_ret ?_
          refine N_then_ret ?_
          exact N_ret1 rfl (rv_tmp rfl) (fun w hh => ⟨(), rfl, hh.sel [] rfl⟩)
        · refine J_skip ?_
          refine N_block ?_
          refine N_then ?_
          refine J_region ?_
          refine JL_q (wants_none rfl) rfl (ex_move rfl) ?_
          refine JL_q (wants_none rfl) rfl (ex_add rfl rfl) ?_
          refine JL_q (wants_none rfl) rfl (ex_assign rfl) ?_
          refine JL_nil ?_
          exact N_next' () ⟨rfl, rfl, rfl, trivial⟩ [6] rfl rfl
    · refine J_exit ?_
      refine N_then_exit ?_
      exact N_break' () ⟨rfl, rfl, rfl, trivial⟩ [0] rfl rfl
  · refine N_then ?_
    refine J_seq ?_
    refine J_region ?_
    refine JL_q (wants_none rfl) rfl (ex_move rfl) ?_
    refine JL_q (wants_none rfl) rfl (ex_assign rfl) ?_
    refine JL_nil ?_
    refine N_then ?_
    refine J_ret ?_
    exact N_ret1 rfl (rv_tmp rfl) (fun w hh => ⟨(), rfl, hh.sel [] rfl⟩)

set_option maxHeartbeats 40000000 in
theorem c_laws_FnExactReadDominoes (A : Nat → Prop) (w : World) (hA : ∀ k, A k → k < w.heap.size) (hT_ : Mxl Tryd.prog w) (p0 : ByteArray) (r : Bool) (hr : F_laws_FnExactReadDominoes p0 = some r) :
    Con Tryd.prog 4 [.string p0] A w (fun x_ : Unit => .bool r) (fun x_ => []) := by
  refine Con_of (v := fun (r : Bool) (x_ : Unit) => .bool r) (fs := fun r x_ => []) Tryd.func4 rfl Tryd.ntmps4 rfl (SH.start hA) rfl ?_ hr
  unfold F_laws_FnExactReadDominoes
  refine J_seq ?_
  refine J_region ?_
  refine JL_q (wants_none rfl) rfl (ex_assign rfl) ?_
  refine JL_nil ?_
  refine N_then ?_
  refine J_seq ?_
  refine J_seq ?_
  refine J_region ?_
  refine JL_q (wants_none rfl) rfl (ex_move rfl) ?_
  refine JL_q (wants_none rfl) rfl (ex_len_str Tryd.underlying9 rfl) ?_
  refine JL_q (wants_none rfl) rfl (ex_gtr rfl rfl) ?_
  refine JL_nil ?_
  refine N_then ?_
  refine J_if rfl (fun h1 => ?_) (fun h1 => ?_)
  · refine J_seq ?_
    refine J_region ?_
    refine JL_q (wants_none rfl) rfl (ex_assign rfl) ?_
    refine JL_nil ?_
    refine N_then ?_
    refine J_ret ?_
    refine N_then_ret ?_
    exact N_ret1 rfl (rv_tmp rfl) (fun w hh => ⟨(), rfl, hh.sel [] rfl⟩)
  · refine J_skip ?_
    refine N_then ?_
    refine J_seq ?_
    refine J_region ?_
    refine JL_q (wants_none rfl) rfl (ex_move rfl) ?_
    refine JL_bnd fun r2 hr3 => ?_
    refine JL_call (wants_none rfl) rfl Tryd.call11 rfl (Ca_self (fun _ => rfl) fun w hh => c_spec_ReadDominoes _ w (fun _ hk => hk.elim) _ _ hr3) (fun x4 => ?_)
    obtain ⟨x4_0, x4_1⟩ := x4
    refine JL_q (wants_none rfl) rfl (ex_move rfl) ?_
    refine JL_q (wants_none rfl) rfl (ex_extract rfl rfl) ?_
    refine JL_q (wants_none rfl) rfl (ex_extract rfl rfl) ?_
    refine JL_q (wants_none rfl) rfl (ex_assign rfl) ?_
    refine JL_q (wants_none rfl) rfl (ex_assign rfl) ?_
    refine JL_nil ?_
    refine N_then ?_
    refine J_seq ?_
    refine J_region ?_
    refine JL_q (wants_none rfl) rfl (ex_move rfl) ?_
    refine JL_bnd fun r5 hr6 => ?_
    refine JL_call (wants_none rfl) rfl Tryd.call12 rfl (Ca_self (fun _ => rfl) fun w hh => c_impl_ReadDominoes _ w (fun _ hk => hk.elim) (Mxl.of hT_ hh) _ _ hr6) (fun x7 => ?_)
    obtain ⟨x7_0, x7_1⟩ := x7
    refine JL_q (wants_none rfl) rfl (ex_move rfl) ?_
    refine JL_q (wants_none rfl) rfl (ex_extract rfl rfl) ?_
    refine JL_q (wants_none rfl) rfl (ex_extract rfl rfl) ?_
    refine JL_q (wants_none rfl) rfl (ex_assign rfl) ?_
    refine JL_q (wants_none rfl) rfl (ex_assign rfl) ?_
    refine JL_nil ?_
    refine N_then ?_
    refine J_seq ?_
    refine J_cut' (S' := Unit) (G' := Unit) (fun _ _ => [(0, .string p0), (3, x4_0), (4, .bool r2.2), (5, x7_0)]) (fun _ _ => [.od 52 x4_0 r2.1 x4_1, .od 52 x7_0 r5.1 x7_1]) ?_ (fun s8 g9 => ?_)
    · refine J_seq ?_
      refine J_region ?_
      refine JL_q (wants_none rfl) rfl (ex_move rfl) ?_
      refine JL_q (wants_none rfl) rfl (ex_move rfl) ?_
      refine JL_bnd fun r10 hr11 => ?_
      refine JL_call (wants_none rfl) rfl Tryd.call13 rfl (Ca_of0 fun w hh => c_laws_eqDominoS _ w (fun _ hk => hk.elim) _ _ (hh.od0 0 rfl) _ _ (hh.od0 1 rfl) _ hr11) (fun _ => ?_)
      refine JL_q (wants_none rfl) rfl (ex_not rfl) ?_
      refine JL_q (wants_none rfl) rfl (ex_move rfl) ?_
      refine JL_cond (fun h12 => ?_) (fun h12 => ?_)
      · refine JL_passed rfl rfl rfl h12 ?_
        refine JL_passed rfl rfl rfl h12 ?_
        refine JL_passed rfl rfl rfl h12 ?_
        refine JL_q (wants_none rfl) rfl (ex_pick_true rfl h12 rfl) ?_
        refine JL_nil ?_
        refine N_then ?_
        refine J_if_true rfl rfl ?_
        refine J_seq ?_
        refine J_region ?_
        refine JL_q (wants_none rfl) rfl (ex_assign rfl) ?_
        refine JL_nil ?_
        refine N_then ?_
        refine J_ret ?_
        refine N_mid_ret ?_
        refine N_then_ret ?_
        exact N_ret1 rfl (rv_tmp rfl) (fun w hh => ⟨(), rfl, hh.sel [] rfl⟩)
      · refine JL_q (wants_some rfl rfl rfl h12) rfl (ex_move rfl) ?_
        refine JL_q (wants_some rfl rfl rfl h12) rfl (ex_move rfl) ?_
        refine JL_q (wants_some rfl rfl rfl h12) rfl (ex_neq_bool Tryd.underlying4 rfl rfl) ?_
        refine JL_q (wants_none rfl) rfl (ex_pick_false rfl h12 rfl) ?_
        refine JL_nil ?_
        refine N_then ?_
        refine J_if rfl (fun h13 => ?_) (fun h13 => ?_)
        · refine J_seq ?_
          refine J_region ?_
          refine JL_q (wants_none rfl) rfl (ex_assign rfl) ?_
          refine JL_nil ?_
          refine N_then ?_
          refine J_ret ?_
          refine N_mid_ret ?_
          refine N_then_ret ?_
          exact N_ret1 rfl (rv_tmp rfl) (fun w hh => ⟨(), rfl, hh.sel [] rfl⟩)
        · refine J_skip ?_
          exact N_meet' () ⟨rfl, rfl, rfl, rfl, trivial⟩ [1, 0] rfl rfl
    · refine N_then ?_
      refine J_seq ?_
      refine J_region ?_
      refine JL_q (wants_none rfl) rfl (ex_assign rfl) ?_
      refine JL_nil ?_
      refine N_then ?_
      refine J_seq ?_
      refine J_region ?_
      refine JL_q (wants_none rfl) rfl (ex_move rfl) ?_
      refine JL_q (wants_none rfl) rfl (ex_move rfl) ?_
      refine JL_bnd fun r14 hr15 => ?_
      refine JL_ctx (fun w hh => hh.tok 1 rfl) ?_
      refine JL_mark 0 [1] mk_laws_markDominoS (wants_none rfl) rfl Tryd.call14 rfl rfl rfl rfl (SH.start hA) rfl hr15 ?_
      refine JL_q (wants_none rfl) rfl (ex_assign rfl) ?_
      refine JL_nil ?_
      refine N_then ?_
      refine J_seq ?_
      refine J_region ?_
      refine JL_q (wants_none rfl) rfl (ex_assign rfl) ?_
      refine JL_nil ?_
      refine N_then ?_
      refine J_seq ?_
      refine J_region ?_
      refine JL_q (wants_none rfl) rfl (ex_move rfl) ?_
      refine JL_q (wants_none rfl) rfl (ex_move rfl) ?_
      refine JL_bnd fun r16 hr17 => ?_
      refine JL_call (wants_none rfl) rfl Tryd.call15 rfl (Ca_of0 fun w hh => c_laws_heldDominoS _ w (fun _ hk => hk.elim) _ _ (hh.rd0 0 rfl) _ _ hr17) (fun _ => ?_)
      refine JL_q (wants_none rfl) rfl (ex_assign rfl) ?_
      refine JL_nil ?_
      refine N_then ?_
      refine J_seq ?_
      refine J_seq ?_
      refine J_region ?_
      refine JL_q (wants_none rfl) rfl (ex_move rfl) ?_
      refine JL_q (wants_none rfl) rfl (ex_lss rfl rfl) ?_
      refine JL_nil ?_
      refine N_then ?_
      refine J_if rfl (fun h18 => ?_) (fun h18 => ?_)
      · refine J_seq ?_
        refine J_region ?_
        refine JL_q (wants_none rfl) rfl (ex_assign rfl) ?_
        refine JL_nil ?_
        refine N_then ?_
        refine J_ret ?_
        refine N_then_ret ?_
        exact N_ret1 rfl (rv_tmp rfl) (fun w hh => ⟨(), rfl, hh.sel [] rfl⟩)
      · refine J_skip ?_
        refine N_then ?_
        refine J_seq ?_
        refine J_seq ?_
        refine J_region ?_
        refine JL_q (wants_none rfl) rfl (ex_move rfl) ?_
        refine JL_q (wants_none rfl) rfl (ex_move rfl) ?_
        refine JL_q (wants_none rfl) rfl (ex_neq rfl rfl) ?_
        refine JL_nil ?_
        refine N_then ?_
        refine J_if rfl (fun h19 => ?_) (fun h19 => ?_)
        · refine J_seq ?_
          refine J_region ?_
          refine JL_q (wants_none rfl) rfl (ex_assign rfl) ?_
          refine JL_nil ?_
          refine N_then ?_
          refine J_ret ?_
          refine N_then_ret ?_
          exact N_ret1 rfl (rv_tmp rfl) (fun w hh => ⟨(), rfl, hh.sel [] rfl⟩)
        · refine J_skip ?_
          refine N_then ?_
          refine J_seq ?_
          refine J_region ?_
          refine JL_q (wants_none rfl) rfl (ex_move rfl) ?_
          refine JL_bnd fun r20 hr21 => ?_
          refine JL_call (wants_none rfl) rfl Tryd.call12 rfl (Ca_self (fun _ => rfl) fun w hh => c_impl_ReadDominoes _ w (fun _ hk => hk.elim) (Mxl.of hT_ hh) _ _ hr21) (fun x22 => ?_)
          obtain ⟨x22_0, x22_1⟩ := x22
          refine JL_q (wants_none rfl) rfl (ex_move rfl) ?_
          refine JL_q (wants_none rfl) rfl (ex_extract rfl rfl) ?_
          refine JL_q (wants_none rfl) rfl (ex_extract rfl rfl) ?_
          refine JL_q (wants_none rfl) rfl (ex_assign rfl) ?_
          refine JL_q (wants_none rfl) rfl (ex_assign rfl) ?_
          refine JL_nil ?_
          refine N_then ?_
          refine J_seq ?_
          refine J_seq ?_
          refine J_region ?_
          refine JL_q (wants_none rfl) rfl (ex_move rfl) ?_
          refine JL_q (wants_none rfl) rfl (ex_move rfl) ?_
          refine JL_bnd fun r23 hr24 => ?_
          refine JL_call (wants_none rfl) rfl Tryd.call13 rfl (Ca_of0 fun w hh => c_laws_eqDominoS _ w (fun _ hk => hk.elim) _ _ (hh.od0 0 rfl) _ _ (hh.od0 3 rfl) _ hr24) (fun _ => ?_)
          refine JL_q (wants_none rfl) rfl (ex_not rfl) ?_
          refine JL_q (wants_none rfl) rfl (ex_move rfl) ?_
          refine JL_cond (fun h25 => ?_) (fun h25 => ?_)
          · refine JL_passed rfl rfl rfl h25 ?_
            refine JL_passed rfl rfl rfl h25 ?_
            refine JL_passed rfl rfl rfl h25 ?_
            refine JL_q (wants_none rfl) rfl (ex_pick_true rfl h25 rfl) ?_
            refine JL_nil ?_
            refine N_then ?_
            refine J_if_true rfl rfl ?_
            refine J_seq ?_
            refine J_region ?_
            refine JL_q (wants_none rfl) rfl (ex_assign rfl) ?_
            refine JL_nil ?_
            refine N_then ?_
            refine J_ret ?_
            refine N_then_ret ?_
            exact N_ret1 rfl (rv_tmp rfl) (fun w hh => ⟨(), rfl, hh.sel [] rfl⟩)
          · refine JL_q (wants_some rfl rfl rfl h25) rfl (ex_move rfl) ?_
            refine JL_q (wants_some rfl rfl rfl h25) rfl (ex_move rfl) ?_
            refine JL_q (wants_some rfl rfl rfl h25) rfl (ex_neq_bool Tryd.underlying4 rfl rfl) ?_
            refine JL_q (wants_none rfl) rfl (ex_pick_false rfl h25 rfl) ?_
            refine JL_nil ?_
            refine N_then ?_
            refine J_if rfl (fun h26 => ?_) (fun h26 => ?_)
            · refine J_seq ?_
              refine J_region ?_
              refine JL_q (wants_none rfl) rfl (ex_assign rfl) ?_
              refine JL_nil ?_
              refine N_then ?_
              refine J_ret ?_
              refine N_then_ret ?_
              exact N_ret1 rfl (rv_tmp rfl) (fun w hh => ⟨(), rfl, hh.sel [] rfl⟩)
            · refine J_skip ?_
              refine N_then ?_
              refine J_seq ?_
              refine J_region ?_
              refine JL_q (wants_none rfl) rfl (ex_assign rfl) ?_
              refine JL_nil ?_
              refine N_then ?_
              refine J_seq ?_
              refine J_region ?_
              refine JL_q (wants_none rfl) rfl (ex_move rfl) ?_
              refine JL_q (wants_none rfl) rfl (ex_move rfl) ?_
              refine JL_bnd fun r27 hr28 => ?_
              refine JL_call (wants_none rfl) rfl Tryd.call15 rfl (Ca_of0 fun w hh => c_laws_heldDominoS _ w (fun _ hk => hk.elim) _ _ (hh.rd0 1 rfl) _ _ hr28) (fun _ => ?_)
              refine JL_q (wants_none rfl) rfl (ex_assign rfl) ?_
              refine JL_nil ?_
              refine N_then ?_
              refine J_seq ?_
              refine J_seq ?_
              refine J_region ?_
              refine JL_q (wants_none rfl) rfl (ex_move rfl) ?_
              refine JL_q (wants_none rfl) rfl (ex_lss rfl rfl) ?_
              refine JL_nil ?_
              refine N_then ?_
              refine J_if rfl (fun h29 => ?_) (fun h29 => ?_)
              · refine J_seq ?_
                refine J_region ?_
                refine JL_q (wants_none rfl) rfl (ex_assign rfl) ?_
                refine JL_nil ?_
                refine N_then ?_
                refine J_ret ?_
                refine N_then_ret ?_
                exact N_ret1 rfl (rv_tmp rfl) (fun w hh => ⟨(), rfl, hh.sel [] rfl⟩)
              · refine J_skip ?_
                refine N_then ?_
                refine J_seq ?_
                refine J_seq ?_
                refine J_region ?_
                refine JL_q (wants_none rfl) rfl (ex_move rfl) ?_
                refine JL_q (wants_none rfl) rfl (ex_move rfl) ?_
                refine JL_q (wants_none rfl) rfl (ex_neq rfl rfl) ?_
                refine JL_nil ?_
                refine N_then ?_
                refine J_if rfl (fun h30 => ?_) (fun h30 => ?_)
                · refine J_seq ?_
                  refine J_region ?_
                  refine JL_q (wants_none rfl) rfl (ex_assign rfl) ?_
                  refine JL_nil ?_
                  refine N_then ?_
                  refine J_ret ?_
                  refine N_then_ret ?_
                  exact N_ret1 rfl (rv_tmp rfl) (fun w hh => ⟨(), rfl, hh.sel [] rfl⟩)
                · refine J_skip ?_
                  refine N_then ?_
                  refine J_seq ?_
                  refine J_region ?_
                  refine JL_q (wants_none rfl) rfl (ex_assign rfl) ?_
                  refine JL_nil ?_
                  refine N_then ?_
                  refine J_ret ?_
                  exact N_ret1 rfl (rv_tmp rfl) (fun w hh => ⟨(), rfl, hh.sel [] rfl⟩)

end Go.Proofs.YtnpkepfmicgelaaDoor
