/-
  Each function of the program computes what its plain function says: printed by program. No condition.
-/
import Derived.Test.YtlbbchonoomafaaFn
import Derived.Test.YtlbbchonoomafaaInf
import Derived.Test.YtlbbchonoomafaaCon1
import Derived.Test.YtlbbchonoomafaaCon2
namespace Go.Proofs.Ytlbbchonoomafaa
open Go Go.Tc Go.Fn
set_option linter.unusedVariables false

set_option maxHeartbeats 4000000 in
theorem c_impl_IsWord (A : Nat → Prop) (w : World) (hA : ∀ k, A k → k < w.heap.size) (v0_ : Value) (p0 : (List Int)) (hp0 : Rd A w v0_ p0) (r : Bool) (hr : F_impl_IsWord p0 = some r) :
    Con Try.prog 102 [v0_] A w (fun x_ : Unit => .bool r) (fun x_ => []) := by
  refine Con_of (v := fun (r : Bool) (x_ : Unit) => .bool r) (fs := fun r x_ => []) Try.func102 rfl Try.ntmps102 rfl ((SH.start hA).start_rd rfl hp0) rfl ?_ hr
  unfold F_impl_IsWord
  refine J_seq ?_
  refine J_region ?_
  refine JL_q (wants_none rfl) rfl (ex_assign rfl) ?_
  refine JL_nil ?_
  refine N_then ?_
  refine J_seq ?_
  refine J_region ?_
  refine JL_q (wants_none rfl) rfl (ex_move rfl) ?_
  refine JL_q (wants_none rfl) rfl (ex_len_rd 0 Try.underlying24 rfl rfl) ?_
  refine JL_q (wants_none rfl) rfl (ex_leq rfl rfl) ?_
  refine JL_q (wants_none rfl) rfl (ex_move rfl) ?_
  refine JL_cond (fun h1 => ?_) (fun h1 => ?_)
  · refine JL_q (wants_some rfl rfl rfl h1) rfl (ex_move rfl) ?_
    refine JL_bnd fun r2 hr3 => ?_
    refine JL_call (wants_some rfl rfl rfl h1) rfl Try.call110 rfl (Ca_of0 fun w hh => c_impl_isLetters _ w (fun _ hk => hk.elim) _ _ (hh.rd0 0 rfl) _ hr3) (fun _ => ?_)
    refine JL_q (wants_none rfl) rfl (ex_pick_true rfl h1 rfl) ?_
    refine JL_q (wants_none rfl) rfl (ex_assign rfl) ?_
    refine JL_nil ?_
    refine N_then ?_
    refine J_ret ?_
    exact N_ret1 rfl (rv_tmp rfl) (fun w hh => ⟨(), rfl, hh.sel [] rfl⟩)
  · refine JL_passed rfl rfl rfl h1 ?_
    refine JL_passed rfl rfl rfl h1 ?_
    refine JL_q (wants_none rfl) rfl (ex_pick_false rfl h1 rfl) ?_
    refine JL_q (wants_none rfl) rfl (ex_assign rfl) ?_
    refine JL_nil ?_
    refine N_then ?_
    refine J_ret ?_
    exact N_ret1 rfl (rv_tmp rfl) (fun w hh => ⟨(), rfl, hh.sel [] rfl⟩)

set_option maxHeartbeats 4000000 in
theorem c_impl_areWords_1 (A : Nat → Prop) (w : World) (hA : ∀ k, A k → k < w.heap.size) (v0_ : Value) (p0 : (List Int)) (hp0 : Rd A w v0_ p0) (r : Bool) (hr : F_impl_areWords_1 p0 = some r) :
    Con Try.prog 101 [v0_] A w (fun x_ : Unit => .bool r) (fun x_ => []) := by
  refine Con_of (v := fun (r : Bool) (x_ : Unit) => .bool r) (fs := fun r x_ => []) Try.func101 rfl Try.ntmps101 rfl ((SH.start hA).start_rd rfl hp0) rfl ?_ hr
  unfold F_impl_areWords_1
  refine J_seq ?_
  refine J_region ?_
  refine JL_q (wants_none rfl) rfl (ex_assign rfl) ?_
  refine JL_nil ?_
  refine N_then ?_
  refine J_seq ?_
  refine J_region ?_
  refine JL_q (wants_none rfl) rfl (ex_move rfl) ?_
  refine JL_bnd fun r1 hr2 => ?_
  refine JL_call (wants_none rfl) rfl Try.call102 rfl (Ca_of0 fun w hh => c_impl_IsWord _ w (fun _ hk => hk.elim) _ _ (hh.rd0 0 rfl) _ hr2) (fun _ => ?_)
  refine JL_q (wants_none rfl) rfl (ex_not rfl) ?_
  refine JL_q (wants_none rfl) rfl (ex_assign rfl) ?_
  refine JL_nil ?_
  refine N_then ?_
  refine J_ret ?_
  exact N_ret1 rfl (rv_tmp rfl) (fun w hh => ⟨(), rfl, hh.sel [] rfl⟩)

set_option maxHeartbeats 4000000 in
theorem c_impl_areWords (A : Nat → Prop) (w : World) (hA : ∀ k, A k → k < w.heap.size) (v0_ : Value) (p0 : (List (List Int))) (hp0 : Rd A w v0_ p0) (r : Bool) (hr : F_impl_areWords p0 = some r) :
    Con Try.prog 64 [v0_] A w (fun x_ : Unit => .bool r) (fun x_ => []) := by
  refine Con_of (v := fun (r : Bool) (x_ : Unit) => .bool r) (fs := fun r x_ => []) Try.func64 rfl Try.ntmps64 rfl ((SH.start hA).start_rd rfl hp0) rfl ?_ hr
  unfold F_impl_areWords
  refine J_seq ?_
  refine J_region ?_
  refine JL_q (wants_none rfl) rfl (ex_assign rfl) ?_
  refine JL_nil ?_
  refine N_then ?_
  refine J_seq ?_
  refine J_region ?_
  refine JL_q (wants_none rfl) rfl (ex_move rfl) ?_
  refine JL_bnd fun r1 hr2 => ?_
  refine JL_call (wants_none rfl) rfl Try.call96 rfl (Ca_of0 fun w hh => c_slices_ContainsFunc_SSint64_Sint64 _ w (fun _ hk => hk.elim) _ _ (hh.rd0 0 rfl) _ _ (Clo.mk (caps := []) Try.call101 (fun w_ hb_ v_ x_ r_ hrd_ hr_ => c_impl_areWords_1 nowhere w_ (fun _ hk => hk.elim) v_ x_ hrd_  _ hr_)) _ hr2) (fun _ => ?_)
  refine JL_q (wants_none rfl) rfl (ex_not rfl) ?_
  refine JL_q (wants_none rfl) rfl (ex_assign rfl) ?_
  refine JL_nil ?_
  refine N_then ?_
  refine J_ret ?_
  exact N_ret1 rfl (rv_tmp rfl) (fun w hh => ⟨(), rfl, hh.sel [] rfl⟩)

set_option maxHeartbeats 4000000 in
theorem c_impl_validDomino (A : Nat → Prop) (w : World) (hA : ∀ k, A k → k < w.heap.size) (v0_ : Value) (p0 : GDomino) (hp0 : Rd A w v0_ p0) (r : Bool) (hr : F_impl_validDomino p0 = some r) :
    Con Try.prog 31 [v0_] A w (fun x_ : Unit => .bool r) (fun x_ => []) := by
  obtain ⟨v0_0, v0_1, rfl, hp0_0, hp0_1⟩ := GDomino.open hp0
  refine Con_of (v := fun (r : Bool) (x_ : Unit) => .bool r) (fs := fun r x_ => []) Try.func31 rfl Try.ntmps31 rfl (((SH.start hA).start_rd rfl hp0_0).start_rd rfl hp0_1) rfl ?_ hr
  unfold F_impl_validDomino
  refine J_seq ?_
  refine J_region ?_
  refine JL_st (wants_none rfl) rfl (st_box' rfl (fun w hh => (cv_aggs ⟨(hh.cv 1 rfl), (hh.cv 0 rfl), trivial⟩))) (fun b1 => ?_)
  refine JL_q (wants_none rfl) rfl (ex_assign rfl) ?_
  refine JL_nil ?_
  refine N_then ?_
  refine J_seq ?_
  refine J_region ?_
  refine JL_q (wants_none rfl) rfl (ex_fieldAddr fi_54_0 rfl rfl) ?_
  refine JL_q (wants_none rfl) rfl (ex_load_bx 0 ti_24 rfl rfl rfl) ?_
  refine JL_q (wants_none rfl) rfl (ex_fieldAddr fi_54_1 rfl rfl) ?_
  refine JL_q (wants_none rfl) rfl (ex_load_bx 0 ti_24 rfl rfl rfl) ?_
  refine JL_st (wants_none rfl) rfl (st_buildSlice (vs := [v0_0, v0_1]) ([p0.Top, p0.Bottom] : List (List Int)) Try.underlying22 ti_24 zi_24 rfl rfl rfl (fun w hh => ⟨(hh.rd 2 rfl), (hh.rd 1 rfl), trivial⟩)) (fun b2 => ?_)
  refine JL_bnd fun r3 hr4 => ?_
  refine JL_call (wants_none rfl) rfl Try.call64 rfl (Ca_of0 fun w hh => c_impl_areWords _ w (fun _ hk => hk.elim) _ _ (hh.ow0 0 rfl) _ hr4) (fun _ => ?_)
  refine JL_q (wants_none rfl) rfl (ex_move rfl) ?_
  refine JL_cond (fun h5 => ?_) (fun h5 => ?_)
  · refine JL_q (wants_some rfl rfl rfl h5) rfl (ex_fieldAddr fi_54_0 rfl rfl) ?_
    refine JL_q (wants_some rfl rfl rfl h5) rfl (ex_load_bx 1 ti_24 rfl rfl rfl) ?_
    refine JL_q (wants_some rfl rfl rfl h5) rfl (ex_len_rd 3 Try.underlying24 rfl rfl) ?_
    refine JL_q (wants_some rfl rfl rfl h5) rfl (ex_fieldAddr fi_54_1 rfl rfl) ?_
    refine JL_q (wants_some rfl rfl rfl h5) rfl (ex_load_bx 1 ti_24 rfl rfl rfl) ?_
    refine JL_q (wants_some rfl rfl rfl h5) rfl (ex_len_rd 2 Try.underlying24 rfl rfl) ?_
    refine JL_q (wants_some rfl rfl rfl h5) rfl (ex_add rfl rfl) ?_
    refine JL_q (wants_some rfl rfl rfl h5) rfl (ex_gtr rfl rfl) ?_
    refine JL_q (wants_none rfl) rfl (ex_pick_true rfl h5 rfl) ?_
    refine JL_q (wants_none rfl) rfl (ex_assign rfl) ?_
    refine JL_nil ?_
    refine N_then ?_
    refine J_ret ?_
    exact N_ret1 rfl (rv_tmp rfl) (fun w hh => ⟨(), rfl, hh.sel [] rfl⟩)
  · refine JL_passed rfl rfl rfl h5 ?_
    refine JL_passed rfl rfl rfl h5 ?_
    refine JL_passed rfl rfl rfl h5 ?_
    refine JL_passed rfl rfl rfl h5 ?_
    refine JL_passed rfl rfl rfl h5 ?_
    refine JL_passed rfl rfl rfl h5 ?_
    refine JL_passed rfl rfl rfl h5 ?_
    refine JL_passed rfl rfl rfl h5 ?_
    refine JL_q (wants_none rfl) rfl (ex_pick_false rfl h5 rfl) ?_
    refine JL_q (wants_none rfl) rfl (ex_assign rfl) ?_
    refine JL_nil ?_
    refine N_then ?_
    refine J_ret ?_
    exact N_ret1 rfl (rv_tmp rfl) (fun w hh => ⟨(), rfl, hh.sel [] rfl⟩)

set_option maxHeartbeats 4000000 in
theorem c_impl_one (A : Nat → Prop) (w : World) (hA : ∀ k, A k → k < w.heap.size)  (r : (List Int)) (hr : F_impl_one  = some r) :
    Con Try.prog 68 [] A w (fun x_ : Value => x_) (fun x_ => [.ow 2 x_ r]) := by
  refine Con_of (v := fun (r : (List Int)) (x_ : Value) => x_) (fs := fun r x_ => [.ow 2 x_ r]) Try.func68 rfl Try.ntmps68 rfl (SH.start hA) rfl ?_ hr
  unfold F_impl_one
  refine J_seq ?_
  refine J_region ?_
  refine JL_q (wants_none rfl) rfl (ex_assign rfl) ?_
  refine JL_nil ?_
  refine N_then ?_
  refine J_seq ?_
  refine J_region ?_
  refine JL_st (wants_none rfl) rfl (st_buildSlice (vs := [.int .i64 1]) ([1] : List Int) Try.underlying24 ti_2 zi_2 rfl rfl rfl (fun w hh => ⟨(Rd.mk_int _ _ _), trivial⟩)) (fun b1 => ?_)
  refine JL_q (wants_none rfl) rfl (ex_assign rfl) ?_
  refine JL_nil ?_
  refine N_then ?_
  refine J_ret ?_
  exact N_ret1 rfl (rv_tmp rfl) (fun w hh => ⟨(.slice (some ⟨b1, 0, none⟩) 1 1), rfl, hh.sel [0] rfl⟩)

set_option maxHeartbeats 4000000 in
theorem c_impl_multiply (A : Nat → Prop) (w : World) (hA : ∀ k, A k → k < w.heap.size) (v0_ : Value) (p0 : (List Int)) (hp0 : Rd A w v0_ p0) (v1_ : Value) (p1 : (List Int)) (hp1 : Rd A w v1_ p1) (r : (List Int)) (hr : F_impl_multiply p0 p1 = some r) :
    Con Try.prog 103 [v0_, v1_] A w (fun x_ : Value × List Nat => x_.1) (fun x_ => [.tkn x_.1 r x_.2]) := by
  refine Con_of (v := fun (r : (List Int)) (x_ : Value × List Nat) => x_.1) (fs := fun r x_ => [.tkn x_.1 r x_.2]) Try.func103 rfl Try.ntmps103 rfl (((SH.start hA).start_rd rfl hp0).start_rd rfl hp1) rfl ?_ hr
  unfold F_impl_multiply
  refine J_seq ?_
  refine J_region ?_
  refine JL_q (wants_none rfl) rfl (ex_assign rfl) ?_
  refine JL_nil ?_
  refine N_then ?_
  refine J_seq ?_
  refine J_region ?_
  refine JL_q (wants_none rfl) rfl (ex_move rfl) ?_
  refine JL_q (wants_none rfl) rfl (ex_len_rd 1 Try.underlying24 rfl rfl) ?_
  refine JL_q (wants_none rfl) rfl (ex_move rfl) ?_
  refine JL_q (wants_none rfl) rfl (ex_len_rd 0 Try.underlying24 rfl rfl) ?_
  refine JL_q (wants_none rfl) rfl (ex_add rfl rfl) ?_
  refine JL_bnd fun z1 hz2 => ?_
  refine JL_st (wants_none rfl) rfl (st_make (α := Int) Try.underlying24 ti_2 zi_2 bi_2 rfl (fun _ _ => zero_int) rfl hz2) (fun b3 => ?_)
  refine JL_q (wants_none rfl) rfl (ex_assign rfl) ?_
  refine JL_nil ?_
  refine N_then ?_
  refine J_seq ?_
  refine J_seq ?_
  refine J_region ?_
  refine JL_q (wants_none rfl) rfl (ex_move rfl) ?_
  refine JL_q (wants_none rfl) rfl (ex_len_rd 2 Try.underlying24 rfl rfl) ?_
  refine JL_q (wants_none rfl) rfl (ex_move rfl) ?_
  refine JL_nil ?_
  refine N_then ?_
  refine J_loop' (S := (List Int) × Int) (G := Unit) (F_impl_multiply_L1 p0 p1) (fun s4 _ => [(1, v1_), (5, (.slice (some ⟨b3, 0, none⟩) z1.length z1.length)), (16, v0_), (17, .int .i64 (p0.length : Int)), (18, .int .i64 s4.2)]) (fun s4 _ => [.rd v1_ p1, .ow 2 (.slice (some ⟨b3, 0, none⟩) z1.length z1.length) s4.1, .rd v0_ p0]) (z1, 0) () ⟨rfl, rfl, rfl, rfl, rfl, trivial⟩ [1, 0, 2] rfl rfl (fun s4 g5 => ?_) (fun s4 g5 => ?_)
  · unfold F_impl_multiply_L1
    refine J_seq ?_
    refine J_region ?_
    refine JL_q (wants_none rfl) rfl (ex_lss rfl rfl) ?_
    refine JL_nil ?_
    refine N_then ?_
    refine J_seq ?_
    refine J_if rfl (fun h6 => ?_) (fun h6 => ?_)
    · refine J_skip ?_
      refine N_then ?_
      refine J_seq ?_
      refine J_block ?_
      refine J_seq ?_
      refine J_region ?_
      refine JL_q (wants_none rfl) rfl (ex_move rfl) ?_
      refine JL_bnd fun y7 hy8 => ?_
      refine JL_st (wants_none rfl) rfl (st_index 2 Try.underlying24 ti_2 rfl rfl rfl hy8) (fun q9 => ?_)
      refine JL_st (wants_none rfl) rfl (st_load_pt_o 0 (opens_int _) ti_2 rfl rfl) (fun _ => ?_)
      refine JL_q (wants_none rfl) rfl (ex_assign rfl) ?_
      refine JL_q (wants_none rfl) rfl (ex_assign rfl) ?_
      refine JL_nil ?_
      refine N_then ?_
      refine J_seq ?_
      refine J_region ?_
      refine JL_q (wants_none rfl) rfl (ex_assign rfl) ?_
      refine JL_nil ?_
      refine N_then ?_
      refine J_seq ?_
      refine J_region ?_
      refine JL_q (wants_none rfl) rfl (ex_assign rfl) ?_
      refine JL_nil ?_
      refine N_then ?_
      refine J_loop' (S := (List Int) × Int × Int) (G := Unit) (F_impl_multiply_L2 p1 s4 y7) (fun s11 _ => [(1, v1_), (5, (.slice (some ⟨b3, 0, none⟩) z1.length z1.length)), (6, .int .i64 s4.2), (7, .int .i64 y7), (8, .int .i64 s11.2.1), (9, .int .i64 s11.2.2), (16, v0_), (17, .int .i64 (p0.length : Int)), (18, .int .i64 s4.2)]) (fun s11 _ => [.rd v1_ p1, .ow 2 (.slice (some ⟨b3, 0, none⟩) z1.length z1.length) s11.1, .rd v0_ p0]) (s4.1, 0, 0) () ⟨rfl, rfl, rfl, rfl, rfl, rfl, rfl, rfl, rfl, trivial⟩ [1, 2, 3] rfl rfl (fun s11 g12 => ?_) (fun s11 g12 => ?_)
      · unfold F_impl_multiply_L2
        refine J_seq ?_
        refine J_seq ?_
        refine J_cut' (S' := Bool) (G' := Unit) (fun s13 _ => [(1, v1_), (5, (.slice (some ⟨b3, 0, none⟩) z1.length z1.length)), (6, .int .i64 s4.2), (7, .int .i64 y7), (8, .int .i64 s11.2.1), (9, .int .i64 s11.2.2), (16, v0_), (17, .int .i64 (p0.length : Int)), (18, .int .i64 s4.2), (30, .bool s13)]) (fun s13 _ => [.rd v1_ p1, .ow 2 (.slice (some ⟨b3, 0, none⟩) z1.length z1.length) s11.1, .rd v0_ p0]) ?_ (fun s13 g14 => ?_)
        · refine J_region ?_
          refine JL_q (wants_none rfl) rfl (ex_move rfl) ?_
          refine JL_q (wants_none rfl) rfl (ex_move rfl) ?_
          refine JL_q (wants_none rfl) rfl (ex_len_rd 0 Try.underlying24 rfl rfl) ?_
          refine JL_q (wants_none rfl) rfl (ex_lss rfl rfl) ?_
          refine JL_q (wants_none rfl) rfl (ex_move rfl) ?_
          refine JL_cond (fun h15 => ?_) (fun h15 => ?_)
          · refine JL_passed rfl rfl rfl h15 ?_
            refine JL_passed rfl rfl rfl h15 ?_
            refine JL_q (wants_none rfl) rfl (ex_pick_true rfl h15 rfl) ?_
            refine JL_nil ?_
            exact N_meet' () ⟨rfl, rfl, rfl, rfl, rfl, rfl, rfl, rfl, rfl, rfl, trivial⟩ [0, 1, 2] rfl rfl
          · refine JL_q (wants_some rfl rfl rfl h15) rfl (ex_move rfl) ?_
            refine JL_q (wants_some rfl rfl rfl h15) rfl (ex_gtr rfl rfl) ?_
            refine JL_q (wants_none rfl) rfl (ex_pick_false rfl h15 rfl) ?_
            refine JL_nil ?_
            exact N_meet' () ⟨rfl, rfl, rfl, rfl, rfl, rfl, rfl, rfl, rfl, rfl, trivial⟩ [0, 1, 2] rfl rfl
        · refine N_then ?_
          refine J_if rfl (fun h16 => ?_) (fun h16 => ?_)
          · refine J_skip ?_
            refine N_then ?_
            refine J_seq ?_
            refine J_block ?_
            refine J_seq ?_
            refine J_region ?_
            refine JL_q (wants_none rfl) rfl (ex_move rfl) ?_
            refine JL_q (wants_none rfl) rfl (ex_move rfl) ?_
            refine JL_q (wants_none rfl) rfl (ex_move rfl) ?_
            refine JL_q (wants_none rfl) rfl (ex_move rfl) ?_
            refine JL_q (wants_none rfl) rfl (ex_add rfl rfl) ?_
            refine JL_bnd fun y17 hy18 => ?_
            refine JL_q (wants_none rfl) rfl (ex_index_ow 1 Try.underlying24 ti_2 rfl rfl rfl hy18) ?_
            refine JL_q (wants_none rfl) rfl (ex_load_ow_int 1 ti_2 rfl rfl hy18) ?_
            refine JL_q (wants_none rfl) rfl (ex_add rfl rfl) ?_
            refine JL_q (wants_none rfl) rfl (ex_assign rfl) ?_
            refine JL_nil ?_
            refine N_then ?_
            refine J_seq ?_
            refine J_seq ?_
            refine J_region ?_
            refine JL_q (wants_none rfl) rfl (ex_move rfl) ?_
            refine JL_q (wants_none rfl) rfl (ex_move rfl) ?_
            refine JL_q (wants_none rfl) rfl (ex_len_rd 0 Try.underlying24 rfl rfl) ?_
            refine JL_q (wants_none rfl) rfl (ex_lss rfl rfl) ?_
            refine JL_nil ?_
            refine N_then ?_
            refine J_if rfl (fun h20 => ?_) (fun h20 => ?_)
            · refine J_region ?_
              refine JL_q (wants_none rfl) rfl (ex_move rfl) ?_
              refine JL_q (wants_none rfl) rfl (ex_move rfl) ?_
              refine JL_q (wants_none rfl) rfl (ex_move rfl) ?_
              refine JL_q (wants_none rfl) rfl (ex_move rfl) ?_
              refine JL_bnd fun y21 hy22 => ?_
              refine JL_st (wants_none rfl) rfl (st_index 0 Try.underlying24 ti_2 rfl rfl rfl hy22) (fun q23 => ?_)
              refine JL_st (wants_none rfl) rfl (st_load_pt_o 0 (opens_int _) ti_2 rfl rfl) (fun _ => ?_)
              refine JL_q (wants_none rfl) rfl (ex_mul rfl rfl) ?_
              refine JL_q (wants_none rfl) rfl (ex_add rfl rfl) ?_
              refine JL_q (wants_none rfl) rfl (ex_assign rfl) ?_
              refine JL_nil ?_
              refine N_then ?_
              refine J_seq ?_
              refine J_region ?_
              refine JL_q (wants_none rfl) rfl (ex_move rfl) ?_
              refine JL_q (wants_none rfl) rfl (ex_move rfl) ?_
              refine JL_q (wants_none rfl) rfl (ex_move rfl) ?_
              refine JL_q (wants_none rfl) rfl (ex_add rfl rfl) ?_
              refine JL_q (wants_none rfl) rfl (ex_move rfl) ?_
              refine JL_q (wants_none rfl) rfl (ex_rem rfl rfl (by decide)) ?_
              refine JL_bnd fun y25 hy26 => ?_
              refine JL_q (wants_none rfl) rfl (ex_index_ow 2 Try.underlying24 ti_2 rfl rfl rfl hy26) ?_
              refine JL_sk (wants_none rfl) (sk_store_ow 2 ti_2 rfl rfl rfl hy26 (fun w hh => (Rd.mk_int _ _ _))) ?_
              refine JL_nil ?_
              refine N_then ?_
              refine J_region ?_
              refine JL_q (wants_none rfl) rfl (ex_move rfl) ?_
              refine JL_q (wants_none rfl) rfl (ex_quo rfl rfl (by decide)) ?_
              refine JL_q (wants_none rfl) rfl (ex_assign rfl) ?_
              refine JL_nil ?_
              refine N_block ?_
              refine N_then ?_
              refine J_region ?_
              refine JL_q (wants_none rfl) rfl (ex_move rfl) ?_
              refine JL_q (wants_none rfl) rfl (ex_add rfl rfl) ?_
              refine JL_q (wants_none rfl) rfl (ex_assign rfl) ?_
              refine JL_nil ?_
              exact N_next' () ⟨rfl, rfl, rfl, rfl, rfl, rfl, rfl, rfl, rfl, trivial⟩ [1, 2, 3] rfl rfl
            · refine J_skip ?_
              refine N_then ?_
              refine J_seq ?_
              refine J_region ?_
              refine JL_q (wants_none rfl) rfl (ex_move rfl) ?_
              refine JL_q (wants_none rfl) rfl (ex_move rfl) ?_
              refine JL_q (wants_none rfl) rfl (ex_move rfl) ?_
              refine JL_q (wants_none rfl) rfl (ex_add rfl rfl) ?_
              refine JL_q (wants_none rfl) rfl (ex_move rfl) ?_
              refine JL_q (wants_none rfl) rfl (ex_rem rfl rfl (by decide)) ?_
              refine JL_bnd fun y27 hy28 => ?_
              refine JL_q (wants_none rfl) rfl (ex_index_ow 1 Try.underlying24 ti_2 rfl rfl rfl hy28) ?_
              refine JL_sk (wants_none rfl) (sk_store_ow 1 ti_2 rfl rfl rfl hy28 (fun w hh => (Rd.mk_int _ _ _))) ?_
              refine JL_nil ?_
              refine N_then ?_
              refine J_region ?_
              refine JL_q (wants_none rfl) rfl (ex_move rfl) ?_
              refine JL_q (wants_none rfl) rfl (ex_quo rfl rfl (by decide)) ?_
              refine JL_q (wants_none rfl) rfl (ex_assign rfl) ?_
              refine JL_nil ?_
              refine N_block ?_
              refine N_then ?_
              refine J_region ?_
              refine JL_q (wants_none rfl) rfl (ex_move rfl) ?_
              refine JL_q (wants_none rfl) rfl (ex_add rfl rfl) ?_
              refine JL_q (wants_none rfl) rfl (ex_assign rfl) ?_
              refine JL_nil ?_
              exact N_next' () ⟨rfl, rfl, rfl, rfl, rfl, rfl, rfl, rfl, rfl, trivial⟩ [0, 1, 2] rfl rfl
          · refine J_exit ?_
            refine N_then_exit ?_
            exact N_break' () ⟨rfl, rfl, rfl, rfl, rfl, rfl, rfl, rfl, rfl, trivial⟩ [0, 1, 2] rfl rfl
      · refine N_block ?_
        refine N_then ?_
        refine J_region ?_
        refine JL_q (wants_none rfl) rfl (ex_add rfl rfl) ?_
        refine JL_q (wants_none rfl) rfl (ex_move rfl) ?_
        refine JL_nil ?_
        exact N_next' () ⟨rfl, rfl, rfl, rfl, rfl, trivial⟩ [0, 1, 2] rfl rfl
    · refine J_exit ?_
      refine N_then_exit ?_
      exact N_break' () ⟨rfl, rfl, rfl, rfl, rfl, trivial⟩ [0, 1, 2] rfl rfl
  · refine N_then ?_
    refine J_seq ?_
    refine J_region ?_
    refine JL_q (wants_none rfl) rfl (ex_move rfl) ?_
    refine JL_bnd fun r29 hr30 => ?_
    refine JL_call (wants_none rfl) rfl Try.call92 rfl (Ca_self (fun _ => rfl) fun w hh => c_impl_trimmed _ w (fun _ hk => hk.elim) _ _ (hh.ow0 1 rfl) _ hr30) (fun x31 => ?_)
    refine JL_ctx (fun w hh => hh.tokf 2 rfl rfl) ?_
    refine JL_ctx (fun w hh => hh.sub_rd 3 rfl (hh.pr 1 rfl)) ?_
    refine JL_ctx (fun w hh => hh.sub_tkn 1 rfl (hh.pr 2 rfl)) ?_
    refine JL_q (wants_none rfl) rfl (ex_assign rfl) ?_
    refine JL_nil ?_
    refine N_then ?_
    refine J_ret ?_
    exact N_ret1 rfl (rv_tmp rfl) (fun w hh => ⟨(x31, (((.slice (some ⟨b3, 0, none⟩) z1.length z1.length) : Value).ownBlock.toList ++ [])), rfl, hh.sel [1] rfl⟩)

set_option maxHeartbeats 4000000 in
theorem c_impl_basePower (A : Nat → Prop) (w : World) (hA : ∀ k, A k → k < w.heap.size) (p0 : Int) (r : (List Int)) (hr : F_impl_basePower p0 = some r) :
    Con Try.prog 66 [.int .i64 p0] A w (fun x_ : Value × List Nat => x_.1) (fun x_ => [.tkn x_.1 r x_.2]) := by
  refine Con_of (v := fun (r : (List Int)) (x_ : Value × List Nat) => x_.1) (fs := fun r x_ => [.tkn x_.1 r x_.2]) Try.func66 rfl Try.ntmps66 rfl (SH.start hA) rfl ?_ hr
  unfold F_impl_basePower
  refine J_seq ?_
  refine J_region ?_
  refine JL_q (wants_none rfl) rfl (ex_assign rfl) ?_
  refine JL_nil ?_
  refine N_then ?_
  refine J_seq ?_
  refine J_region ?_
  refine JL_bnd fun r1 hr2 => ?_
  refine JL_call (wants_none rfl) rfl Try.call68 rfl (Ca_self (fun _ => rfl) fun w hh => c_impl_one _ w (fun _ hk => hk.elim)  _ hr2) (fun x3 => ?_)
  refine JL_q (wants_none rfl) rfl (ex_assign rfl) ?_
  refine JL_nil ?_
  refine N_then ?_
  refine J_seq ?_
  refine J_ctx (fun w hh => hh.tokf 0 rfl rfl) ?_
  refine J_loop' (S := Int × (List Int)) (G := Value × List Nat) (F_impl_basePower_L1) (fun s4 g5 => [(0, .int .i64 s4.1), (3, g5.1)]) (fun s4 g5 => [.rd g5.1 s4.2, .tkn g5.1 s4.2 g5.2]) (p0, r1) (x3, ((x3 : Value).ownBlock.toList ++ [])) ⟨rfl, rfl, trivial⟩ [1, 0] rfl rfl (fun s4 g5 => ?_) (fun s4 g5 => ?_)
  · obtain ⟨g5_0, g5_1⟩ := g5
    unfold F_impl_basePower_L1
    refine J_seq ?_
    refine J_seq ?_
    refine J_region ?_
    refine JL_q (wants_none rfl) rfl (ex_move rfl) ?_
    refine JL_q (wants_none rfl) rfl (ex_gtr rfl rfl) ?_
    refine JL_q (wants_none rfl) rfl (ex_move rfl) ?_
    refine JL_cond (fun h6 => ?_) (fun h6 => ?_)
    · refine JL_q (wants_some rfl rfl rfl h6) rfl (ex_move rfl) ?_
      refine JL_q (wants_some rfl rfl rfl h6) rfl (ex_len_rd 0 Try.underlying24 rfl rfl) ?_
      refine JL_q (wants_some rfl rfl rfl h6) rfl (ex_leq rfl rfl) ?_
      refine JL_q (wants_none rfl) rfl (ex_pick_true rfl h6 rfl) ?_
      refine JL_nil ?_
      refine N_then ?_
      refine J_if rfl (fun h7 => ?_) (fun h7 => ?_)
      · refine J_skip ?_
        refine N_then ?_
        refine J_seq ?_
        refine J_block ?_
        refine J_region ?_
        refine JL_q (wants_none rfl) rfl (ex_move rfl) ?_
        refine JL_st (wants_none rfl) rfl (st_buildSlice (vs := [.int .i64 11]) ([11] : List Int) Try.underlying24 ti_2 zi_2 rfl rfl rfl (fun w hh => ⟨(Rd.mk_int _ _ _), trivial⟩)) (fun b8 => ?_)
        refine JL_bnd fun r9 hr10 => ?_
        refine JL_call (wants_none rfl) rfl Try.call103 rfl (Ca_self (fun _ => rfl) fun w hh => c_impl_multiply _ w (fun _ hk => hk.elim) _ _ (hh.rd0 1 rfl) _ _ (hh.ow0 0 rfl) _ hr10) (fun x11 => ?_)
        obtain ⟨x11_0, x11_1⟩ := x11
        refine JL_ctx (fun w hh => hh.tkn_rd 0 rfl) ?_
        refine JL_q (wants_none rfl) rfl (ex_assign rfl) ?_
        refine JL_nil ?_
        refine N_block ?_
        refine N_then ?_
        refine J_region ?_
        refine JL_q (wants_none rfl) rfl (ex_move rfl) ?_
        refine JL_q (wants_none rfl) rfl (ex_sub rfl rfl) ?_
        refine JL_q (wants_none rfl) rfl (ex_assign rfl) ?_
        refine JL_nil ?_
        exact N_next' (x11_0, x11_1) ⟨rfl, rfl, trivial⟩ [0, 1] rfl rfl
      · refine J_exit ?_
        refine N_then_exit ?_
        exact N_break' (g5_0, g5_1) ⟨rfl, rfl, trivial⟩ [0, 1] rfl rfl
    · refine JL_passed rfl rfl rfl h6 ?_
      refine JL_passed rfl rfl rfl h6 ?_
      refine JL_passed rfl rfl rfl h6 ?_
      refine JL_q (wants_none rfl) rfl (ex_pick_false rfl h6 rfl) ?_
      refine JL_nil ?_
      refine N_then ?_
      refine J_if_false rfl rfl ?_
      refine J_exit ?_
      refine N_then_exit ?_
      exact N_break' (g5_0, g5_1) ⟨rfl, rfl, trivial⟩ [0, 1] rfl rfl
  · obtain ⟨g5_0, g5_1⟩ := g5
    refine N_then ?_
    refine J_seq ?_
    refine J_region ?_
    refine JL_q (wants_none rfl) rfl (ex_move rfl) ?_
    refine JL_q (wants_none rfl) rfl (ex_assign rfl) ?_
    refine JL_nil ?_
    refine N_then ?_
    refine J_ret ?_
    exact N_ret1 rfl (rv_tmp rfl) (fun w hh => ⟨(g5_0, g5_1), rfl, hh.sel [1] rfl⟩)

set_option maxHeartbeats 4000000 in
theorem c_impl_carried (A : Nat → Prop) (w : World) (hA : ∀ k, A k → k < w.heap.size) (v0_ : Value) (p0 : (List Int)) (hp0 : Rd A w v0_ p0) (r : (List Int)) (hr : F_impl_carried p0 = some r) :
    Con Try.prog 113 [v0_] A w (fun x_ : Value × List Nat => x_.1) (fun x_ => [.tkn x_.1 r x_.2]) := by
  refine Con_of (v := fun (r : (List Int)) (x_ : Value × List Nat) => x_.1) (fs := fun r x_ => [.tkn x_.1 r x_.2]) Try.func113 rfl Try.ntmps113 rfl ((SH.start hA).start_rd rfl hp0) rfl ?_ hr
  unfold F_impl_carried
  refine J_seq ?_
  refine J_region ?_
  refine JL_q (wants_none rfl) rfl (ex_assign rfl) ?_
  refine JL_nil ?_
  refine N_then ?_
  refine J_seq ?_
  refine J_region ?_
  refine JL_st (wants_none rfl) rfl (st_buildSlice (vs := []) ([] : List Int) Try.underlying24 ti_2 zi_2 rfl rfl rfl (fun w hh => trivial)) (fun b1 => ?_)
  refine JL_q (wants_none rfl) rfl (ex_assign rfl) ?_
  refine JL_q (wants_none rfl) rfl (ex_assign rfl) ?_
  refine JL_nil ?_
  refine N_then ?_
  refine J_seq ?_
  refine J_seq ?_
  refine J_region ?_
  refine JL_q (wants_none rfl) rfl (ex_assign rfl) ?_
  refine JL_nil ?_
  refine N_then ?_
  refine J_loop' (S := (List Int) × Int × Int) (G := Value) (F_impl_carried_L1 p0) (fun s2 g3 => [(0, v0_), (3, g3), (4, .int .i64 s2.2.1), (5, .int .i64 s2.2.2)]) (fun s2 g3 => [.rd v0_ p0, .ow 2 g3 s2.1]) (([] : List Int), 0, 0) (.slice (some ⟨b1, 0, none⟩) 0 0) ⟨rfl, rfl, rfl, rfl, trivial⟩ [1, 0] rfl rfl (fun s2 g3 => ?_) (fun s2 g3 => ?_)
  · unfold F_impl_carried_L1
    refine J_seq ?_
    refine J_seq ?_
    refine J_cut' (S' := Bool) (G' := Unit) (fun s4 _ => [(0, v0_), (3, g3), (4, .int .i64 s2.2.1), (5, .int .i64 s2.2.2), (14, .bool s4)]) (fun s4 _ => [.rd v0_ p0, .ow 2 g3 s2.1]) ?_ (fun s4 g5 => ?_)
    · refine J_region ?_
      refine JL_q (wants_none rfl) rfl (ex_move rfl) ?_
      refine JL_q (wants_none rfl) rfl (ex_move rfl) ?_
      refine JL_q (wants_none rfl) rfl (ex_len_rd 0 Try.underlying24 rfl rfl) ?_
      refine JL_q (wants_none rfl) rfl (ex_lss rfl rfl) ?_
      refine JL_q (wants_none rfl) rfl (ex_move rfl) ?_
      refine JL_cond (fun h6 => ?_) (fun h6 => ?_)
      · refine JL_passed rfl rfl rfl h6 ?_
        refine JL_passed rfl rfl rfl h6 ?_
        refine JL_q (wants_none rfl) rfl (ex_pick_true rfl h6 rfl) ?_
        refine JL_nil ?_
        exact N_meet' () ⟨rfl, rfl, rfl, rfl, rfl, trivial⟩ [0, 1] rfl rfl
      · refine JL_q (wants_some rfl rfl rfl h6) rfl (ex_move rfl) ?_
        refine JL_q (wants_some rfl rfl rfl h6) rfl (ex_gtr rfl rfl) ?_
        refine JL_q (wants_none rfl) rfl (ex_pick_false rfl h6 rfl) ?_
        refine JL_nil ?_
        exact N_meet' () ⟨rfl, rfl, rfl, rfl, rfl, trivial⟩ [0, 1] rfl rfl
    · refine N_then ?_
      refine J_if rfl (fun h7 => ?_) (fun h7 => ?_)
      · refine J_skip ?_
        refine N_then ?_
        refine J_seq ?_
        refine J_block ?_
        refine J_seq ?_
        refine J_seq ?_
        refine J_region ?_
        refine JL_q (wants_none rfl) rfl (ex_move rfl) ?_
        refine JL_q (wants_none rfl) rfl (ex_move rfl) ?_
        refine JL_q (wants_none rfl) rfl (ex_len_rd 0 Try.underlying24 rfl rfl) ?_
        refine JL_q (wants_none rfl) rfl (ex_lss rfl rfl) ?_
        refine JL_nil ?_
        refine N_then ?_
        refine J_if rfl (fun h8 => ?_) (fun h8 => ?_)
        · refine J_region ?_
          refine JL_q (wants_none rfl) rfl (ex_move rfl) ?_
          refine JL_q (wants_none rfl) rfl (ex_move rfl) ?_
          refine JL_q (wants_none rfl) rfl (ex_move rfl) ?_
          refine JL_bnd fun y9 hy10 => ?_
          refine JL_st (wants_none rfl) rfl (st_index 0 Try.underlying24 ti_2 rfl rfl rfl hy10) (fun q11 => ?_)
          refine JL_st (wants_none rfl) rfl (st_load_pt_o 0 (opens_int _) ti_2 rfl rfl) (fun _ => ?_)
          refine JL_q (wants_none rfl) rfl (ex_add rfl rfl) ?_
          refine JL_q (wants_none rfl) rfl (ex_assign rfl) ?_
          refine JL_nil ?_
          refine N_then ?_
          refine J_seq ?_
          refine J_region ?_
          refine JL_q (wants_none rfl) rfl (ex_move rfl) ?_
          refine JL_q (wants_none rfl) rfl (ex_move rfl) ?_
          refine JL_q (wants_none rfl) rfl (ex_rem rfl rfl (by decide)) ?_
          refine JL_st (wants_none rfl) rfl (st_buildSlice (vs := [.int .i64 (Int.tmod (w64 (s2.2.1 + y9)) 1000000)]) ([(Int.tmod (w64 (s2.2.1 + y9)) 1000000)] : List Int) Try.underlying24 ti_2 zi_2 rfl rfl rfl (fun w hh => ⟨(Rd.mk_int _ _ _), trivial⟩)) (fun b13 => ?_)
          refine JL_bnd fun z14 hz15 => ?_
          refine JL_st (wants_none rfl) rfl (st_append 3 Try.underlying24 ti_2 zi_2 rfl bi_2 rfl rfl rfl rfl (fun w hh => hh.src_ow 0 rfl) hz15) (fun v16 => ?_)
          refine JL_q (wants_none rfl) rfl (ex_assign rfl) ?_
          refine JL_nil ?_
          refine N_then ?_
          refine J_region ?_
          refine JL_q (wants_none rfl) rfl (ex_move rfl) ?_
          refine JL_q (wants_none rfl) rfl (ex_quo rfl rfl (by decide)) ?_
          refine JL_q (wants_none rfl) rfl (ex_assign rfl) ?_
          refine JL_nil ?_
          refine N_block ?_
          refine N_then ?_
          refine J_region ?_
          refine JL_q (wants_none rfl) rfl (ex_move rfl) ?_
          refine JL_q (wants_none rfl) rfl (ex_add rfl rfl) ?_
          refine JL_q (wants_none rfl) rfl (ex_assign rfl) ?_
          refine JL_nil ?_
          exact N_next' v16 ⟨rfl, rfl, rfl, rfl, trivial⟩ [2, 3] rfl rfl
        · refine J_skip ?_
          refine N_then ?_
          refine J_seq ?_
          refine J_region ?_
          refine JL_q (wants_none rfl) rfl (ex_move rfl) ?_
          refine JL_q (wants_none rfl) rfl (ex_move rfl) ?_
          refine JL_q (wants_none rfl) rfl (ex_rem rfl rfl (by decide)) ?_
          refine JL_st (wants_none rfl) rfl (st_buildSlice (vs := [.int .i64 (Int.tmod s2.2.1 1000000)]) ([(Int.tmod s2.2.1 1000000)] : List Int) Try.underlying24 ti_2 zi_2 rfl rfl rfl (fun w hh => ⟨(Rd.mk_int _ _ _), trivial⟩)) (fun b17 => ?_)
          refine JL_bnd fun z18 hz19 => ?_
          refine JL_st (wants_none rfl) rfl (st_append 2 Try.underlying24 ti_2 zi_2 rfl bi_2 rfl rfl rfl rfl (fun w hh => hh.src_ow 0 rfl) hz19) (fun v20 => ?_)
          refine JL_q (wants_none rfl) rfl (ex_assign rfl) ?_
          refine JL_nil ?_
          refine N_then ?_
          refine J_region ?_
          refine JL_q (wants_none rfl) rfl (ex_move rfl) ?_
          refine JL_q (wants_none rfl) rfl (ex_quo rfl rfl (by decide)) ?_
          refine JL_q (wants_none rfl) rfl (ex_assign rfl) ?_
          refine JL_nil ?_
          refine N_block ?_
          refine N_then ?_
          refine J_region ?_
          refine JL_q (wants_none rfl) rfl (ex_move rfl) ?_
          refine JL_q (wants_none rfl) rfl (ex_add rfl rfl) ?_
          refine JL_q (wants_none rfl) rfl (ex_assign rfl) ?_
          refine JL_nil ?_
          exact N_next' v20 ⟨rfl, rfl, rfl, rfl, trivial⟩ [1, 2] rfl rfl
      · refine J_exit ?_
        refine N_then_exit ?_
        exact N_break' g3 ⟨rfl, rfl, rfl, rfl, trivial⟩ [0, 1] rfl rfl
  · refine N_then ?_
    refine J_seq ?_
    refine J_region ?_
    refine JL_q (wants_none rfl) rfl (ex_move rfl) ?_
    refine JL_bnd fun r21 hr22 => ?_
    refine JL_call (wants_none rfl) rfl Try.call92 rfl (Ca_self (fun _ => rfl) fun w hh => c_impl_trimmed _ w (fun _ hk => hk.elim) _ _ (hh.ow0 1 rfl) _ hr22) (fun x23 => ?_)
    refine JL_ctx (fun w hh => hh.tokf 2 rfl rfl) ?_
    refine JL_ctx (fun w hh => hh.sub_rd 3 rfl (hh.pr 1 rfl)) ?_
    refine JL_ctx (fun w hh => hh.sub_tkn 1 rfl (hh.pr 2 rfl)) ?_
    refine JL_q (wants_none rfl) rfl (ex_assign rfl) ?_
    refine JL_nil ?_
    refine N_then ?_
    refine J_ret ?_
    exact N_ret1 rfl (rv_tmp rfl) (fun w hh => ⟨(x23, ((g3 : Value).ownBlock.toList ++ [])), rfl, hh.sel [1] rfl⟩)

set_option maxHeartbeats 4000000 in
theorem c_impl_naturalOf (A : Nat → Prop) (w : World) (hA : ∀ k, A k → k < w.heap.size) (p0 : Int) (r : (List Int)) (hr : F_impl_naturalOf p0 = some r) :
    Con Try.prog 112 [.int .i64 p0] A w (fun x_ : Value × List Nat => x_.1) (fun x_ => [.tkn x_.1 r x_.2]) := by
  refine Con_of (v := fun (r : (List Int)) (x_ : Value × List Nat) => x_.1) (fs := fun r x_ => [.tkn x_.1 r x_.2]) Try.func112 rfl Try.ntmps112 rfl (SH.start hA) rfl ?_ hr
  unfold F_impl_naturalOf
  refine J_seq ?_
  refine J_region ?_
  refine JL_q (wants_none rfl) rfl (ex_assign rfl) ?_
  refine JL_nil ?_
  refine N_then ?_
  refine J_seq ?_
  refine J_region ?_
  refine JL_q (wants_none rfl) rfl (ex_move rfl) ?_
  refine JL_st (wants_none rfl) rfl (st_buildSlice (vs := [.int .i64 p0]) ([p0] : List Int) Try.underlying24 ti_2 zi_2 rfl rfl rfl (fun w hh => ⟨(Rd.mk_int _ _ _), trivial⟩)) (fun b1 => ?_)
  refine JL_bnd fun r2 hr3 => ?_
  refine JL_call (wants_none rfl) rfl Try.call113 rfl (Ca_self (fun _ => rfl) fun w hh => c_impl_carried _ w (fun _ hk => hk.elim) _ _ (hh.ow0 0 rfl) _ hr3) (fun x4 => ?_)
  obtain ⟨x4_0, x4_1⟩ := x4
  refine JL_ctx (fun w hh => hh.tkn_rd 0 rfl) ?_
  refine JL_q (wants_none rfl) rfl (ex_assign rfl) ?_
  refine JL_nil ?_
  refine N_then ?_
  refine J_ret ?_
  exact N_ret1 rfl (rv_tmp rfl) (fun w hh => ⟨(x4_0, x4_1), rfl, hh.sel [1] rfl⟩)

set_option maxHeartbeats 4000000 in
theorem c_impl_add (A : Nat → Prop) (w : World) (hA : ∀ k, A k → k < w.heap.size) (v0_ : Value) (p0 : (List Int)) (hp0 : Rd A w v0_ p0) (v1_ : Value) (p1 : (List Int)) (hp1 : Rd A w v1_ p1) (r : (List Int)) (hr : F_impl_add p0 p1 = some r) :
    Con Try.prog 111 [v0_, v1_] A w (fun x_ : Value × List Nat => x_.1) (fun x_ => [.tkn x_.1 r x_.2]) := by
  refine Con_of (v := fun (r : (List Int)) (x_ : Value × List Nat) => x_.1) (fs := fun r x_ => [.tkn x_.1 r x_.2]) Try.func111 rfl Try.ntmps111 rfl (((SH.start hA).start_rd rfl hp0).start_rd rfl hp1) rfl ?_ hr
  unfold F_impl_add
  refine J_seq ?_
  refine J_region ?_
  refine JL_q (wants_none rfl) rfl (ex_assign rfl) ?_
  refine JL_nil ?_
  refine N_then ?_
  refine J_seq ?_
  refine J_region ?_
  refine JL_q (wants_none rfl) rfl (ex_move rfl) ?_
  refine JL_q (wants_none rfl) rfl (ex_len_rd 1 Try.underlying24 rfl rfl) ?_
  refine JL_q (wants_none rfl) rfl (ex_move rfl) ?_
  refine JL_q (wants_none rfl) rfl (ex_len_rd 0 Try.underlying24 rfl rfl) ?_
  refine JL_q (wants_none rfl) rfl (ex_max rfl rfl) ?_
  refine JL_bnd fun z1 hz2 => ?_
  refine JL_st (wants_none rfl) rfl (st_make (α := Int) Try.underlying24 ti_2 zi_2 bi_2 rfl (fun _ _ => zero_int) rfl hz2) (fun b3 => ?_)
  refine JL_q (wants_none rfl) rfl (ex_assign rfl) ?_
  refine JL_nil ?_
  refine N_then ?_
  refine J_seq ?_
  refine J_region ?_
  refine JL_q (wants_none rfl) rfl (ex_move rfl) ?_
  refine JL_q (wants_none rfl) rfl (ex_move rfl) ?_
  refine JL_st (wants_none rfl) rfl (st_copy 0 rfl Try.underlying24 ti_2 rfl rfl rfl (fun w hh => hh.src_rd 2 rfl)) (fun _ => ?_)
  refine JL_nil ?_
  refine N_then ?_
  refine J_seq ?_
  refine J_seq ?_
  refine J_region ?_
  refine JL_q (wants_none rfl) rfl (ex_move rfl) ?_
  refine JL_q (wants_none rfl) rfl (ex_len_rd 1 Try.underlying24 rfl rfl) ?_
  refine JL_q (wants_none rfl) rfl (ex_move rfl) ?_
  refine JL_nil ?_
  refine N_then ?_
  refine J_loop' (S := (List Int) × Int) (G := Unit) (F_impl_add_L1 p1) (fun s4 _ => [(5, (.slice (some ⟨b3, 0, none⟩) z1.length z1.length)), (17, v1_), (18, .int .i64 (p1.length : Int)), (19, .int .i64 s4.2)]) (fun s4 _ => [.ow 2 (.slice (some ⟨b3, 0, none⟩) z1.length z1.length) s4.1, .rd v1_ p1]) ((cpy z1 p0), 0) () ⟨rfl, rfl, rfl, rfl, trivial⟩ [0, 1] rfl rfl (fun s4 g5 => ?_) (fun s4 g5 => ?_)
  · unfold F_impl_add_L1
    refine J_seq ?_
    refine J_region ?_
    refine JL_q (wants_none rfl) rfl (ex_lss rfl rfl) ?_
    refine JL_nil ?_
    refine N_then ?_
    refine J_seq ?_
    refine J_if rfl (fun h6 => ?_) (fun h6 => ?_)
    · refine J_skip ?_
      refine N_then ?_
      refine J_seq ?_
      refine J_block ?_
      refine J_seq ?_
      refine J_region ?_
      refine JL_q (wants_none rfl) rfl (ex_move rfl) ?_
      refine JL_bnd fun y7 hy8 => ?_
      refine JL_st (wants_none rfl) rfl (st_index 1 Try.underlying24 ti_2 rfl rfl rfl hy8) (fun q9 => ?_)
      refine JL_st (wants_none rfl) rfl (st_load_pt_o 0 (opens_int _) ti_2 rfl rfl) (fun _ => ?_)
      refine JL_q (wants_none rfl) rfl (ex_assign rfl) ?_
      refine JL_q (wants_none rfl) rfl (ex_assign rfl) ?_
      refine JL_nil ?_
      refine N_then ?_
      refine J_region ?_
      refine JL_q (wants_none rfl) rfl (ex_move rfl) ?_
      refine JL_q (wants_none rfl) rfl (ex_move rfl) ?_
      refine JL_bnd fun y11 hy12 => ?_
      refine JL_q (wants_none rfl) rfl (ex_index_ow 1 Try.underlying24 ti_2 rfl rfl rfl hy12) ?_
      refine JL_q (wants_none rfl) rfl (ex_load_ow_int 1 ti_2 rfl rfl hy12) ?_
      refine JL_q (wants_none rfl) rfl (ex_move rfl) ?_
      refine JL_q (wants_none rfl) rfl (ex_add rfl rfl) ?_
      refine JL_bnd fun y14 hy15 => ?_
      refine JL_q (wants_none rfl) rfl (ex_index_ow 1 Try.underlying24 ti_2 rfl rfl rfl hy15) ?_
      refine JL_sk (wants_none rfl) (sk_store_ow 1 ti_2 rfl rfl rfl hy15 (fun w hh => (Rd.mk_int _ _ _))) ?_
      refine JL_nil ?_
      refine N_block ?_
      refine N_then ?_
      refine J_region ?_
      refine JL_q (wants_none rfl) rfl (ex_add rfl rfl) ?_
      refine JL_q (wants_none rfl) rfl (ex_move rfl) ?_
      refine JL_nil ?_
      exact N_next' () ⟨rfl, rfl, rfl, rfl, trivial⟩ [1, 2] rfl rfl
    · refine J_exit ?_
      refine N_then_exit ?_
      exact N_break' () ⟨rfl, rfl, rfl, rfl, trivial⟩ [0, 1] rfl rfl
  · refine N_then ?_
    refine J_seq ?_
    refine J_region ?_
    refine JL_q (wants_none rfl) rfl (ex_move rfl) ?_
    refine JL_bnd fun r16 hr17 => ?_
    refine JL_call (wants_none rfl) rfl Try.call113 rfl (Ca_self (fun _ => rfl) fun w hh => c_impl_carried _ w (fun _ hk => hk.elim) _ _ (hh.ow0 0 rfl) _ hr17) (fun x18 => ?_)
    obtain ⟨x18_0, x18_1⟩ := x18
    refine JL_ctx (fun w hh => hh.tkn_rd 0 rfl) ?_
    refine JL_q (wants_none rfl) rfl (ex_assign rfl) ?_
    refine JL_nil ?_
    refine N_then ?_
    refine J_ret ?_
    exact N_ret1 rfl (rv_tmp rfl) (fun w hh => ⟨(x18_0, x18_1), rfl, hh.sel [1] rfl⟩)

set_option maxHeartbeats 4000000 in
theorem c_impl_fromDigits (A : Nat → Prop) (w : World) (hA : ∀ k, A k → k < w.heap.size) (v0_ : Value) (p0 : (List Int)) (hp0 : Rd A w v0_ p0) (p1 : Int) (r : (List Int)) (hr : F_impl_fromDigits p0 p1 = some r) :
    Con Try.prog 104 [v0_, .int .i64 p1] A w (fun x_ : Value × List Nat => x_.1) (fun x_ => [.tkn x_.1 r x_.2]) := by
  refine Con_of (v := fun (r : (List Int)) (x_ : Value × List Nat) => x_.1) (fs := fun r x_ => [.tkn x_.1 r x_.2]) Try.func104 rfl Try.ntmps104 rfl ((SH.start hA).start_rd rfl hp0) rfl ?_ hr
  unfold F_impl_fromDigits
  refine J_seq ?_
  refine J_region ?_
  refine JL_q (wants_none rfl) rfl (ex_assign rfl) ?_
  refine JL_nil ?_
  refine N_then ?_
  refine J_seq ?_
  refine J_region ?_
  refine JL_st (wants_none rfl) rfl (st_buildSlice (vs := []) ([] : List Int) Try.underlying24 ti_2 zi_2 rfl rfl rfl (fun w hh => trivial)) (fun b1 => ?_)
  refine JL_q (wants_none rfl) rfl (ex_assign rfl) ?_
  refine JL_nil ?_
  refine N_then ?_
  refine J_seq ?_
  refine J_seq ?_
  refine J_region ?_
  refine JL_q (wants_none rfl) rfl (ex_move rfl) ?_
  refine JL_q (wants_none rfl) rfl (ex_len_rd 1 Try.underlying24 rfl rfl) ?_
  refine JL_q (wants_none rfl) rfl (ex_sub rfl rfl) ?_
  refine JL_q (wants_none rfl) rfl (ex_assign rfl) ?_
  refine JL_nil ?_
  refine N_then ?_
  refine J_ctx (fun w hh => hh.tokf 0 rfl rfl) ?_
  refine J_loop' (S := (List Int) × Int) (G := Value × List Nat) (F_impl_fromDigits_L1 p0 p1) (fun s2 g3 => [(0, v0_), (1, .int .i64 p1), (5, g3.1), (6, .int .i64 s2.2)]) (fun s2 g3 => [.rd v0_ p0, .rd g3.1 s2.1, .tkn g3.1 s2.1 g3.2]) (([] : List Int), (w64 ((p0.length : Int) - 1))) ((.slice (some ⟨b1, 0, none⟩) 0 0), (((.slice (some ⟨b1, 0, none⟩) 0 0) : Value).ownBlock.toList ++ [])) ⟨rfl, rfl, rfl, rfl, trivial⟩ [2, 1, 0] rfl rfl (fun s2 g3 => ?_) (fun s2 g3 => ?_)
  · obtain ⟨g3_0, g3_1⟩ := g3
    unfold F_impl_fromDigits_L1
    refine J_seq ?_
    refine J_seq ?_
    refine J_region ?_
    refine JL_q (wants_none rfl) rfl (ex_move rfl) ?_
    refine JL_q (wants_none rfl) rfl (ex_geq rfl rfl) ?_
    refine JL_nil ?_
    refine N_then ?_
    refine J_if rfl (fun h4 => ?_) (fun h4 => ?_)
    · refine J_skip ?_
      refine N_then ?_
      refine J_seq ?_
      refine J_block ?_
      refine J_draw [] (by kernel_rfl) ?_
      refine JP_take (i := 0) [0, 1, 2] [] rfl (by kernel_rfl) (by kernel_rfl) (by kernel_rfl) rfl rfl (wants_none rfl) rfl (ex_move rfl) ?_
      refine JP_take (i := 1) [0, 1, 2] [] rfl (by kernel_rfl) (by kernel_rfl) (by kernel_rfl) rfl rfl (wants_none rfl) rfl (ex_move rfl) ?_
      refine JP_take (i := 4) [0, 1, 2] [] rfl (by kernel_rfl) (by kernel_rfl) (by kernel_rfl) rfl rfl (wants_none rfl) rfl (ex_move rfl) ?_
      refine JP_take (i := 5) [0, 1, 2] [] rfl (by kernel_rfl) (by kernel_rfl) (by kernel_rfl) rfl rfl (wants_none rfl) rfl (ex_move rfl) ?_
      refine JP_bnd fun y5 hy6 => ?_
      refine JP_sq (i := 6) [] rfl (by kernel_rfl) (by kernel_rfl) (by kernel_rfl) rfl (wants_none rfl) rfl (sq_index 0 Try.underlying24 ti_2 rfl rfl rfl hy6) (fun q7 => ?_)
      refine JP_sq (i := 7) [] rfl (by kernel_rfl) (by kernel_rfl) (by kernel_rfl) rfl (wants_none rfl) rfl (sq_load_pt_o 0 (opens_int _) ti_2 rfl rfl) (fun _ => ?_)
      refine JP_go [0, 1, 2, 3] [] rfl rfl rfl (fun w10 h1_11 hp9 => ?_)
      refine JD_bnd fun r12 hr13 => ?_
      refine JD_one (i := 2) (by kernel_rfl) ?_
      refine JO_call rfl (wants_none rfl) rfl Try.call112 rfl (Ca_self (fun _ => rfl) fun w hh => c_impl_naturalOf _ w (fun _ hk => hk.elim) _ _ hr13) (fun x14 => ?_)
      obtain ⟨x14_0, x14_1⟩ := x14
      refine JD_ctx (fun w hh => hh.tkn_rd 0 rfl) (fun _ hb => hb) ?_
      refine JD_bnd fun r15 hr16 => ?_
      refine JD_one (i := 3) (by kernel_rfl) ?_
      refine JO_call rfl (wants_none rfl) rfl Try.call103 rfl (Ca_self (fun _ => rfl) fun w hh => c_impl_multiply _ w (fun _ hk => hk.elim) _ _ (hh.rd0 4 rfl) _ _ (hh.rd0 0 rfl) _ hr16) (fun x17 => ?_)
      obtain ⟨x17_0, x17_1⟩ := x17
      refine JD_ctx (fun w hh => hh.tkn_rd 0 rfl) (fun _ hb => hb) ?_
      refine JD_bnd fun r18 hr19 => ?_
      refine JD_one (i := 8) (by kernel_rfl) ?_
      refine JO_call rfl (wants_none rfl) rfl Try.call112 rfl (Ca_self (fun _ => rfl) fun w hh => c_impl_naturalOf _ w (fun _ hk => hk.elim) _ _ hr19) (fun x20 => ?_)
      obtain ⟨x20_0, x20_1⟩ := x20
      refine JD_ctx (fun w hh => hh.tkn_rd 0 rfl) (fun _ hb => hb) ?_
      refine JD_bnd fun r21 hr22 => ?_
      refine JD_one (i := 9) (by kernel_rfl) ?_
      refine JO_call rfl (wants_none rfl) rfl Try.call111 rfl (Ca_self (fun _ => rfl) fun w hh => c_impl_add _ w (fun _ hk => hk.elim) _ _ (hh.rd0 2 rfl) _ _ (hh.rd0 0 rfl) _ hr22) (fun x23 => ?_)
      obtain ⟨x23_0, x23_1⟩ := x23
      refine JD_ctx (fun w hh => hh.tkn_rd 0 rfl) (fun _ hb => hb) ?_
      refine JD_take (i := 10) hp9 rfl (by kernel_rfl) (by kernel_rfl) (by kernel_rfl) (wants_none rfl) rfl (ex_assign rfl) ?_
      refine JD_done (by kernel_rfl) ?_
      refine N_block ?_
      refine N_then ?_
      refine J_region ?_
      refine JL_q (wants_none rfl) rfl (ex_move rfl) ?_
      refine JL_q (wants_none rfl) rfl (ex_sub rfl rfl) ?_
      refine JL_q (wants_none rfl) rfl (ex_assign rfl) ?_
      refine JL_nil ?_
      exact N_next' (x23_0, x23_1) ⟨rfl, rfl, rfl, rfl, trivial⟩ [9, 0, 1] rfl rfl
    · refine J_exit ?_
      refine N_then_exit ?_
      exact N_break' (g3_0, g3_1) ⟨rfl, rfl, rfl, rfl, trivial⟩ [0, 1, 2] rfl rfl
  · obtain ⟨g3_0, g3_1⟩ := g3
    refine N_then ?_
    refine J_seq ?_
    refine J_region ?_
    refine JL_q (wants_none rfl) rfl (ex_move rfl) ?_
    refine JL_q (wants_none rfl) rfl (ex_assign rfl) ?_
    refine JL_nil ?_
    refine N_then ?_
    refine J_ret ?_
    exact N_ret1 rfl (rv_tmp rfl) (fun w hh => ⟨(g3_0, g3_1), rfl, hh.sel [2] rfl⟩)

set_option maxHeartbeats 4000000 in
theorem c_impl_valueOf (A : Nat → Prop) (w : World) (hA : ∀ k, A k → k < w.heap.size) (v0_ : Value) (p0 : (List Int)) (hp0 : Rd A w v0_ p0) (r : (List Int)) (hr : F_impl_valueOf p0 = some r) :
    Con Try.prog 67 [v0_] A w (fun x_ : Value × List Nat => x_.1) (fun x_ => [.tkn x_.1 r x_.2]) := by
  refine Con_of (v := fun (r : (List Int)) (x_ : Value × List Nat) => x_.1) (fs := fun r x_ => [.tkn x_.1 r x_.2]) Try.func67 rfl Try.ntmps67 rfl ((SH.start hA).start_rd rfl hp0) rfl ?_ hr
  unfold F_impl_valueOf
  refine J_seq ?_
  refine J_region ?_
  refine JL_q (wants_none rfl) rfl (ex_assign rfl) ?_
  refine JL_nil ?_
  refine N_then ?_
  refine J_seq ?_
  refine J_region ?_
  refine JL_q (wants_none rfl) rfl (ex_move rfl) ?_
  refine JL_bnd fun r1 hr2 => ?_
  refine JL_call (wants_none rfl) rfl Try.call62 rfl (Ca_self (fun _ => rfl) fun w hh => c_impl_moved _ w (fun _ hk => hk.elim) _ _ (hh.rd0 0 rfl) _ _ hr2) (fun x3 => ?_)
  refine JL_bnd fun r4 hr5 => ?_
  refine JL_call (wants_none rfl) rfl Try.call63 rfl (Ca_self (fun _ => rfl) fun w hh => c_impl_reversed _ w (fun _ hk => hk.elim) _ _ (hh.ow0 0 rfl) _ hr5) (fun x6 => ?_)
  refine JL_bnd fun r7 hr8 => ?_
  refine JL_call (wants_none rfl) rfl Try.call104 rfl (Ca_self (fun _ => rfl) fun w hh => c_impl_fromDigits _ w (fun _ hk => hk.elim) _ _ (hh.ow0 0 rfl) _ _ hr8) (fun x9 => ?_)
  obtain ⟨x9_0, x9_1⟩ := x9
  refine JL_ctx (fun w hh => hh.tkn_rd 0 rfl) ?_
  refine JL_q (wants_none rfl) rfl (ex_assign rfl) ?_
  refine JL_nil ?_
  refine N_then ?_
  refine J_ret ?_
  exact N_ret1 rfl (rv_tmp rfl) (fun w hh => ⟨(x9_0, x9_1), rfl, hh.sel [1] rfl⟩)

set_option maxHeartbeats 4000000 in
theorem c_impl_checkedSquare (A : Nat → Prop) (w : World) (hA : ∀ k, A k → k < w.heap.size) (v0_ : Value) (p0 : (List (List Int))) (hp0 : Rd A w v0_ p0) (r : (List (List Int)) × Int) (hr : F_impl_checkedSquare p0 = some r) :
    Con Try.prog 65 [v0_] A w (fun x_ : Value => .tuple #[x_, .int .i64 r.2]) (fun x_ => [.pr (Sub v0_ p0 x_ r.1)]) := by
  refine Con_of (v := fun (r : (List (List Int)) × Int) (x_ : Value) => .tuple #[x_, .int .i64 r.2]) (fs := fun r x_ => [.pr (Sub v0_ p0 x_ r.1)]) Try.func65 rfl Try.ntmps65 rfl ((SH.start hA).start_rd rfl hp0) rfl ?_ hr
  unfold F_impl_checkedSquare
  refine J_seq ?_
  refine J_region ?_
  refine JL_q (wants_none rfl) rfl (ex_assign rfl) ?_
  refine JL_q (wants_none rfl) rfl (ex_assign rfl) ?_
  refine JL_nil ?_
  refine N_then ?_
  refine J_seq ?_
  refine J_seq ?_
  refine J_region ?_
  refine JL_q (wants_none rfl) rfl (ex_move rfl) ?_
  refine JL_bnd fun r1 hr2 => ?_
  refine JL_call (wants_none rfl) rfl Try.call29 rfl (Ca_of0 fun w hh => c_impl_isSquare _ w (fun _ hk => hk.elim) _ _ (hh.rd0 0 rfl) _ hr2) (fun _ => ?_)
  refine JL_q (wants_none rfl) rfl (ex_not rfl) ?_
  refine JL_nil ?_
  refine N_then ?_
  refine J_if rfl (fun h3 => ?_) (fun h3 => ?_)
  · refine J_seq ?_
    refine J_region ?_
    refine JL_q (wants_none rfl) rfl (ex_assign rfl) ?_
    refine JL_q (wants_none rfl) rfl (ex_assign rfl) ?_
    refine JL_nil ?_
    refine N_then ?_
    refine J_ret ?_
    refine N_then_ret ?_
    refine N_ctx (fun w hh => hh.cons_pr (p := Sub v0_ p0 (.slice none 0 0) ([] : (List (List Int)))) Sub.nil) ?_
    exact N_ret2 rfl (rv_tmp rfl) (rv_tmp rfl) (fun w hh => ⟨(.slice none 0 0 : Value), rfl, hh.sel [0] rfl⟩)
  · refine J_skip ?_
    refine N_then ?_
    refine J_seq ?_
    refine J_region ?_
    refine JL_q (wants_none rfl) rfl (ex_move rfl) ?_
    refine JL_q (wants_none rfl) rfl (ex_assign rfl) ?_
    refine JL_q (wants_none rfl) rfl (ex_assign rfl) ?_
    refine JL_nil ?_
    refine N_then ?_
    refine J_ret ?_
    refine N_ctx (fun w hh => hh.cons_pr (p := Sub v0_ p0 v0_ p0) Sub.refl) ?_
    exact N_ret2 rfl (rv_tmp rfl) (rv_tmp rfl) (fun w hh => ⟨v0_, rfl, hh.sel [0] rfl⟩)

set_option maxHeartbeats 4000000 in
theorem c_impl_squareOf (A : Nat → Prop) (w : World) (hA : ∀ k, A k → k < w.heap.size) (v0_ : Value) (p0 : GDomino) (hp0 : Rd A w v0_ p0) (r : (List (List Int)) × Int) (hr : F_impl_squareOf p0 = some r) :
    Con Try.prog 32 [v0_] A w (fun x_ : Value × List Nat => .tuple #[x_.1, .int .i64 r.2]) (fun x_ => [.tkn x_.1 r.1 x_.2]) := by
  obtain ⟨v0_0, v0_1, rfl, hp0_0, hp0_1⟩ := GDomino.open hp0
  refine Con_of (v := fun (r : (List (List Int)) × Int) (x_ : Value × List Nat) => .tuple #[x_.1, .int .i64 r.2]) (fs := fun r x_ => [.tkn x_.1 r.1 x_.2]) Try.func32 rfl Try.ntmps32 rfl (((SH.start hA).start_rd rfl hp0_0).start_rd rfl hp0_1) rfl ?_ hr
  unfold F_impl_squareOf
  refine J_seq ?_
  refine J_region ?_
  refine JL_st (wants_none rfl) rfl (st_box' rfl (fun w hh => (cv_aggs ⟨(hh.cv 1 rfl), (hh.cv 0 rfl), trivial⟩))) (fun b1 => ?_)
  refine JL_q (wants_none rfl) rfl (ex_assign rfl) ?_
  refine JL_q (wants_none rfl) rfl (ex_assign rfl) ?_
  refine JL_nil ?_
  refine N_then ?_
  refine J_seq ?_
  refine J_draw [] (by kernel_rfl) ?_
  refine JP_take (i := 0) [0, 1, 2] [] rfl (by kernel_rfl) (by kernel_rfl) (by kernel_rfl) rfl rfl (wants_none rfl) rfl (ex_fieldAddr fi_54_0 rfl rfl) ?_
  refine JP_take (i := 1) [0, 1, 2] [] rfl (by kernel_rfl) (by kernel_rfl) (by kernel_rfl) rfl rfl (wants_none rfl) rfl (ex_load_bx 0 ti_24 rfl rfl rfl) ?_
  refine JP_take (i := 2) [0, 1, 2] [] rfl (by kernel_rfl) (by kernel_rfl) (by kernel_rfl) rfl rfl (wants_none rfl) rfl (ex_len_rd 2 Try.underlying24 rfl rfl) ?_
  refine JP_take (i := 7) [0, 1, 2] [] rfl (by kernel_rfl) (by kernel_rfl) (by kernel_rfl) rfl rfl (wants_none rfl) rfl (ex_fieldAddr fi_54_1 rfl rfl) ?_
  refine JP_take (i := 8) [0, 1, 2] [] rfl (by kernel_rfl) (by kernel_rfl) (by kernel_rfl) rfl rfl (wants_none rfl) rfl (ex_load_bx 0 ti_24 rfl rfl rfl) ?_
  refine JP_take (i := 9) [0, 1, 2] [] rfl (by kernel_rfl) (by kernel_rfl) (by kernel_rfl) rfl rfl (wants_none rfl) rfl (ex_len_rd 1 Try.underlying24 rfl rfl) ?_
  refine JP_take (i := 12) [0, 1, 2] [] rfl (by kernel_rfl) (by kernel_rfl) (by kernel_rfl) rfl rfl (wants_none rfl) rfl (ex_fieldAddr fi_54_0 rfl rfl) ?_
  refine JP_take (i := 13) [0, 1, 2] [] rfl (by kernel_rfl) (by kernel_rfl) (by kernel_rfl) rfl rfl (wants_none rfl) rfl (ex_load_bx 0 ti_24 rfl rfl rfl) ?_
  refine JP_take (i := 15) [0, 1, 2] [] rfl (by kernel_rfl) (by kernel_rfl) (by kernel_rfl) rfl rfl (wants_none rfl) rfl (ex_fieldAddr fi_54_1 rfl rfl) ?_
  refine JP_take (i := 16) [0, 1, 2] [] rfl (by kernel_rfl) (by kernel_rfl) (by kernel_rfl) rfl rfl (wants_none rfl) rfl (ex_load_bx 0 ti_24 rfl rfl rfl) ?_
  refine JP_go [0, 1, 2] [] rfl rfl rfl (fun w3 h1_4 hp2 => ?_)
  refine JD_bnd fun r5 hr6 => ?_
  refine JD_bnd fun r7 hr8 => ?_
  refine JD_bnd fun r9 hr10 => ?_
  refine JD_bnd fun r11 hr12 => ?_
  refine JD_bnd fun r13 hr14 => ?_
  refine JD_par (fuel := 6) [⟨3, 7, Value × List Nat, fun x_ => x_.1, fun x_ => [.tkn x_.1 r5 x_.2]⟩, ⟨4, 8, Nat, fun b16 => (.slice (some ⟨b16, 0, none⟩) 0 0), fun b16 => [.ow 2 (.slice (some ⟨b16, 0, none⟩) 0 0) ([] : List Int)]⟩, ⟨5, 9, Nat, fun b17 => (.slice (some ⟨b17, 0, none⟩) 0 0), fun b17 => [.ow 2 (.slice (some ⟨b17, 0, none⟩) 0 0) ([] : List Int)]⟩, ⟨6, 10, Nat, fun b18 => (.slice (some ⟨b18, 0, none⟩) 0 0), fun b18 => [.ow 2 (.slice (some ⟨b18, 0, none⟩) 0 0) ([] : List Int)]⟩, ⟨10, 14, Value × List Nat, fun x_ => x_.1, fun x_ => [.tkn x_.1 r7 x_.2]⟩, ⟨11, 15, Nat, fun b20 => (.slice (some ⟨b20, 0, none⟩) 0 0), fun b20 => [.ow 2 (.slice (some ⟨b20, 0, none⟩) 0 0) ([] : List Int)]⟩, ⟨14, 18, Value × List Nat, fun x_ => x_.1, fun x_ => [.tkn x_.1 r9 x_.2]⟩, ⟨17, 21, Value × List Nat, fun x_ => x_.1, fun x_ => [.tkn x_.1 r11 x_.2]⟩, ⟨18, 22, Value, fun x_ => x_, fun x_ => [.ow 2 x_ r13]⟩] [3, 4, 5, 6, 10, 11, 14, 17, 18] 9 rfl rfl (by kernel_rfl) rfl rfl rfl ⟨(PStep.call rfl (wants_none rfl) Try.call66 rfl (fun _ => (Ca_self (fun _ => rfl) fun w hh => c_impl_basePower _ w (fun _ hk => hk.elim) _ _ hr6))), (PStep.st rfl (wants_none rfl) (fun _ => (st_buildSlice (vs := []) ([] : List Int) Try.underlying24 ti_2 zi_2 rfl rfl rfl (fun w hh => trivial)))), (PStep.st rfl (wants_none rfl) (fun _ => (st_buildSlice (vs := []) ([] : List Int) Try.underlying24 ti_2 zi_2 rfl rfl rfl (fun w hh => trivial)))), (PStep.st rfl (wants_none rfl) (fun _ => (st_buildSlice (vs := []) ([] : List Int) Try.underlying24 ti_2 zi_2 rfl rfl rfl (fun w hh => trivial)))), (PStep.call rfl (wants_none rfl) Try.call66 rfl (fun _ => (Ca_self (fun _ => rfl) fun w hh => c_impl_basePower _ w (fun _ hk => hk.elim) _ _ hr8))), (PStep.st rfl (wants_none rfl) (fun _ => (st_buildSlice (vs := []) ([] : List Int) Try.underlying24 ti_2 zi_2 rfl rfl rfl (fun w hh => trivial)))), (PStep.call rfl (wants_none rfl) Try.call67 rfl (fun _ => (Ca_self (fun _ => rfl) fun w hh => c_impl_valueOf _ w (fun _ hk => hk.elim) _ _ (hh.rd0 2 rfl) _ hr10))), (PStep.call rfl (wants_none rfl) Try.call67 rfl (fun _ => (Ca_self (fun _ => rfl) fun w hh => c_impl_valueOf _ w (fun _ hk => hk.elim) _ _ (hh.rd0 1 rfl) _ hr12))), (PStep.call rfl (wants_none rfl) Try.call68 rfl (fun _ => (Ca_self (fun _ => rfl) fun w hh => c_impl_one _ w (fun _ hk => hk.elim)  _ hr14))), trivial⟩ (fun x15 b16 b17 b18 x19 b20 x21 x22 x23 => ?_)
  show JD _ _ _ _ _ _ _ _ _ _ _ _ _ _
  obtain ⟨x15_0, x15_1⟩ := x15
  obtain ⟨x19_0, x19_1⟩ := x19
  obtain ⟨x21_0, x21_1⟩ := x21
  obtain ⟨x22_0, x22_1⟩ := x22
  refine JD_ctx (fun w hh => hh.tkn_rd 8 rfl) (fun _ hb => hb) ?_
  refine JD_ctx (fun w hh => hh.tkn_rd 5 rfl) (fun _ hb => hb) ?_
  refine JD_ctx (fun w hh => hh.tkn_rd 4 rfl) (fun _ hb => hb) ?_
  refine JD_ctx (fun w hh => hh.tkn_rd 4 rfl) (fun _ hb => hb) ?_
  refine JD_one (i := 19) (by kernel_rfl) ?_
  refine JO_ctx (fun w hh => hh.tokf 11 rfl rfl) (tokf_owns (i := 11) rfl) ?_
  refine JO_ctx (fun w hh => hh.tokf 11 rfl rfl) (tokf_owns (i := 11) rfl) ?_
  refine JO_ctx (fun w hh => hh.tokf 11 rfl rfl) (tokf_owns (i := 11) rfl) ?_
  refine JO_ctx (fun w hh => hh.tokf 10 rfl rfl) (tokf_owns (i := 10) rfl) ?_
  refine JO_ctx (fun w hh => hh.tokf 8 rfl rfl) (tokf_owns (i := 8) rfl) ?_
  refine JO_st rfl (wants_none rfl) rfl (st_buildSlice_od (vs := [x15_0, (.slice (some ⟨b16, 0, none⟩) 0 0), (.slice (some ⟨b17, 0, none⟩) 0 0), (.slice (some ⟨b18, 0, none⟩) 0 0), x19_0, (.slice (some ⟨b20, 0, none⟩) 0 0), x21_0, x22_0, x23]) (B := (x15_1 ++ ((((.slice (some ⟨b16, 0, none⟩) 0 0) : Value).ownBlock.toList ++ []) ++ ((((.slice (some ⟨b17, 0, none⟩) 0 0) : Value).ownBlock.toList ++ []) ++ ((((.slice (some ⟨b18, 0, none⟩) 0 0) : Value).ownBlock.toList ++ []) ++ (x19_1 ++ ((((.slice (some ⟨b20, 0, none⟩) 0 0) : Value).ownBlock.toList ++ []) ++ (x21_1 ++ (x22_1 ++ (((x23 : Value).ownBlock.toList ++ []) ++ [])))))))))) ([r5, ([] : List Int), ([] : List Int), ([] : List Int), r7, ([] : List Int), r9, r11, r13] : List (List Int)) [17, 4, 3, 2, 13, 1, 11, 10, 0] Try.underlying22 ti_24 zi_24 rfl rfl rfl rfl rfl (fun w hh => (dwv_cons (hh.dw 17 rfl) (dwv_cons (hh.dw 4 rfl) (dwv_cons (hh.dw 3 rfl) (dwv_cons (hh.dw 2 rfl) (dwv_cons (hh.dw 13 rfl) (dwv_cons (hh.dw 1 rfl) (dwv_cons (hh.dw 11 rfl) (dwv_cons (hh.dw 10 rfl) (dwv_cons (hh.dw 0 rfl) dwv_nil))))))))))) (fun _ hk => nomatch hk) (fun b24 => ?_)
  refine JD_bnd fun r25 hr26 => ?_
  refine JD_one (i := 20) (by kernel_rfl) ?_
  refine JO_call rfl (wants_none rfl) rfl Try.call65 rfl (Ca_self (fun _ => rfl) fun w hh => c_impl_checkedSquare _ w (fun _ hk => hk.elim) _ _ (hh.od0 0 rfl) _ hr26) (fun x27 => ?_)
  refine JD_ctx (fun w hh => hh.tok 1 rfl) (tok_owns (i := 1) rfl) ?_
  refine JD_ctx (fun w hh => hh.sub_rd 2 rfl (hh.pr 1 rfl)) (fun _ hb => hb) ?_
  refine JD_ctx (fun w hh => hh.sub_tkn 1 rfl (hh.pr 2 rfl)) (tkn_owns (i := 1) rfl) ?_
  refine JD_take (i := 21) hp2 rfl (by kernel_rfl) (by kernel_rfl) (by kernel_rfl) (wants_none rfl) rfl (ex_extract rfl rfl) ?_
  refine JD_take (i := 22) hp2 rfl (by kernel_rfl) (by kernel_rfl) (by kernel_rfl) (wants_none rfl) rfl (ex_extract rfl rfl) ?_
  refine JD_take (i := 23) hp2 rfl (by kernel_rfl) (by kernel_rfl) (by kernel_rfl) (wants_none rfl) rfl (ex_assign rfl) ?_
  refine JD_take (i := 24) hp2 rfl (by kernel_rfl) (by kernel_rfl) (by kernel_rfl) (wants_none rfl) rfl (ex_assign rfl) ?_
  refine JD_done (by kernel_rfl) ?_
  refine N_then ?_
  refine J_ret ?_
  exact N_ret2 rfl (rv_tmp rfl) (rv_tmp rfl) (fun w hh => ⟨(x27, (((.slice (some ⟨b24, 0, none⟩) 9 9) : Value).ownBlock.toList ++ (x15_1 ++ ((((.slice (some ⟨b16, 0, none⟩) 0 0) : Value).ownBlock.toList ++ []) ++ ((((.slice (some ⟨b17, 0, none⟩) 0 0) : Value).ownBlock.toList ++ []) ++ ((((.slice (some ⟨b18, 0, none⟩) 0 0) : Value).ownBlock.toList ++ []) ++ (x19_1 ++ ((((.slice (some ⟨b20, 0, none⟩) 0 0) : Value).ownBlock.toList ++ []) ++ (x21_1 ++ (x22_1 ++ (((x23 : Value).ownBlock.toList ++ []) ++ []))))))))))), rfl, hh.sel [1] rfl⟩)

set_option maxHeartbeats 4000000 in
theorem c_slices_Equal_Sint64_int64 (A : Nat → Prop) (w : World) (hA : ∀ k, A k → k < w.heap.size) (v0_ : Value) (p0 : (List Int)) (hp0 : Rd A w v0_ p0) (v1_ : Value) (p1 : (List Int)) (hp1 : Rd A w v1_ p1) (r : Bool) (hr : F_slices_Equal_Sint64_int64 p0 p1 = some r) :
    Con Try.prog 34 [v0_, v1_] A w (fun x_ : Unit => .bool r) (fun x_ => []) := by
  refine Con_of (v := fun (r : Bool) (x_ : Unit) => .bool r) (fs := fun r x_ => []) Try.func34 rfl Try.ntmps34 rfl (((SH.start hA).start_rd rfl hp0).start_rd rfl hp1) rfl ?_ hr
  unfold F_slices_Equal_Sint64_int64
  refine J_seq ?_
  refine J_region ?_
  refine JL_q (wants_none rfl) rfl (ex_assign rfl) ?_
  refine JL_nil ?_
  refine N_then ?_
  refine J_seq ?_
  refine J_seq ?_
  refine J_region ?_
  refine JL_q (wants_none rfl) rfl (ex_move rfl) ?_
  refine JL_q (wants_none rfl) rfl (ex_len_rd 1 Try.underlying24 rfl rfl) ?_
  refine JL_q (wants_none rfl) rfl (ex_move rfl) ?_
  refine JL_q (wants_none rfl) rfl (ex_len_rd 0 Try.underlying24 rfl rfl) ?_
  refine JL_q (wants_none rfl) rfl (ex_neq rfl rfl) ?_
  refine JL_nil ?_
  refine N_then ?_
  refine J_if rfl (fun h1 => ?_) (fun h1 => ?_)
  · refine J_seq ?_
    refine J_region ?_
    refine JL_q (wants_none rfl) rfl (ex_assign rfl) ?_
    refine JL_nil ?_
    refine N_then ?_
    refine J_ret ?_
    refine N_then_ret ?_
    exact N_ret1 rfl (rv_tmp rfl) (fun w hh => ⟨(), rfl, hh.sel [] rfl⟩)
  · refine J_skip ?_
    refine N_then ?_
    refine J_seq ?_
    refine J_seq ?_
    refine J_region ?_
    refine JL_q (wants_none rfl) rfl (ex_move rfl) ?_
    refine JL_q (wants_none rfl) rfl (ex_len_rd 1 Try.underlying24 rfl rfl) ?_
    refine JL_q (wants_none rfl) rfl (ex_move rfl) ?_
    refine JL_nil ?_
    refine N_then ?_
    refine J_loop' (S := Int) (G := Unit) (F_slices_Equal_Sint64_int64_L1 p0 p1) (fun s2 _ => [(0, v0_), (1, v1_), (12, .int .i64 (p0.length : Int)), (13, .int .i64 s2)]) (fun s2 _ => [.rd v0_ p0, .rd v1_ p1]) 0 () ⟨rfl, rfl, rfl, rfl, trivial⟩ [1, 0] rfl rfl (fun s2 g3 => ?_) (fun s2 g3 => ?_)
    · unfold F_slices_Equal_Sint64_int64_L1
      refine J_seq ?_
      refine J_region ?_
      refine JL_q (wants_none rfl) rfl (ex_lss rfl rfl) ?_
      refine JL_nil ?_
      refine N_then ?_
      refine J_seq ?_
      refine J_if rfl (fun h4 => ?_) (fun h4 => ?_)
      · refine J_skip ?_
        refine N_then ?_
        refine J_seq ?_
        refine J_block ?_
        refine J_seq ?_
        refine J_region ?_
        refine JL_q (wants_none rfl) rfl (ex_move rfl) ?_
        refine JL_q (wants_none rfl) rfl (ex_assign rfl) ?_
        refine JL_nil ?_
        refine N_then ?_
        refine J_seq ?_
        refine J_draw [] (by kernel_rfl) ?_
        refine JP_take (i := 0) [0, 1] [] rfl (by kernel_rfl) (by kernel_rfl) (by kernel_rfl) rfl rfl (wants_none rfl) rfl (ex_move rfl) ?_
        refine JP_take (i := 1) [0, 1] [] rfl (by kernel_rfl) (by kernel_rfl) (by kernel_rfl) rfl rfl (wants_none rfl) rfl (ex_move rfl) ?_
        refine JP_bnd fun y5 hy6 => ?_
        refine JP_sq (i := 2) [] rfl (by kernel_rfl) (by kernel_rfl) (by kernel_rfl) rfl (wants_none rfl) rfl (sq_index 0 Try.underlying24 ti_2 rfl rfl rfl hy6) (fun q7 => ?_)
        refine JP_sq (i := 3) [] rfl (by kernel_rfl) (by kernel_rfl) (by kernel_rfl) rfl (wants_none rfl) rfl (sq_load_pt_o 0 (opens_int _) ti_2 rfl rfl) (fun _ => ?_)
        refine JP_take (i := 4) [0, 1, 2] [] rfl (by kernel_rfl) (by kernel_rfl) (by kernel_rfl) rfl rfl (wants_none rfl) rfl (ex_move rfl) ?_
        refine JP_take (i := 5) [0, 1, 2] [] rfl (by kernel_rfl) (by kernel_rfl) (by kernel_rfl) rfl rfl (wants_none rfl) rfl (ex_move rfl) ?_
        refine JP_bnd fun y9 hy10 => ?_
        refine JP_sq (i := 6) [] rfl (by kernel_rfl) (by kernel_rfl) (by kernel_rfl) rfl (wants_none rfl) rfl (sq_index 2 Try.underlying24 ti_2 rfl rfl rfl hy10) (fun q11 => ?_)
        refine JP_sq (i := 7) [] rfl (by kernel_rfl) (by kernel_rfl) (by kernel_rfl) rfl (wants_none rfl) rfl (sq_load_pt_o 0 (opens_int _) ti_2 rfl rfl) (fun _ => ?_)
        refine JP_take (i := 8) [0, 1, 2, 3] [] rfl (by kernel_rfl) (by kernel_rfl) (by kernel_rfl) rfl rfl (wants_none rfl) rfl (ex_neq rfl rfl) ?_
        refine JP_go [] [] rfl rfl rfl (fun _ _ _ => ?_)
        refine JD_done (by kernel_rfl) ?_
        refine N_then ?_
        refine J_if rfl (fun h13 => ?_) (fun h13 => ?_)
        · refine J_seq ?_
          refine J_region ?_
          refine JL_q (wants_none rfl) rfl (ex_assign rfl) ?_
          refine JL_nil ?_
          refine N_then ?_
          refine J_ret ?_
          refine N_block_ret ?_
          refine N_then_ret ?_
          refine N_round_ret ?_
          refine N_then_ret ?_
          exact N_ret1 rfl (rv_tmp rfl) (fun w hh => ⟨(), rfl, hh.sel [] rfl⟩)
        · refine J_skip ?_
          refine N_block ?_
          refine N_then ?_
          refine J_region ?_
          refine JL_q (wants_none rfl) rfl (ex_add rfl rfl) ?_
          refine JL_q (wants_none rfl) rfl (ex_move rfl) ?_
          refine JL_nil ?_
          exact N_next' () ⟨rfl, rfl, rfl, rfl, trivial⟩ [2, 3] rfl rfl
      · refine J_exit ?_
        refine N_then_exit ?_
        exact N_break' () ⟨rfl, rfl, rfl, rfl, trivial⟩ [0, 1] rfl rfl
    · refine N_then ?_
      refine J_seq ?_
      refine J_region ?_
      refine JL_q (wants_none rfl) rfl (ex_assign rfl) ?_
      refine JL_nil ?_
      refine N_then ?_
      refine J_ret ?_
      exact N_ret1 rfl (rv_tmp rfl) (fun w hh => ⟨(), rfl, hh.sel [] rfl⟩)

set_option maxHeartbeats 4000000 in
theorem c_impl_WordsOfSquare (A : Nat → Prop) (w : World) (hA : ∀ k, A k → k < w.heap.size) (v0_ : Value) (p0 : (List (List Int))) (hp0 : Rd A w v0_ p0) (r : (List Int) × (List Int) × Int) (hr : F_impl_WordsOfSquare p0 = some r) :
    Con Try.prog 8 [v0_] A w (fun x_ : Value × Value => .tuple #[x_.1, x_.2, .int .i64 r.2.2]) (fun x_ => [.ow 2 x_.1 r.1, .ow 2 x_.2 r.2.1]) := by
  refine Con_of (v := fun (r : (List Int) × (List Int) × Int) (x_ : Value × Value) => .tuple #[x_.1, x_.2, .int .i64 r.2.2]) (fs := fun r x_ => [.ow 2 x_.1 r.1, .ow 2 x_.2 r.2.1]) Try.func8 rfl Try.ntmps8 rfl ((SH.start hA).start_rd rfl hp0) rfl ?_ hr
  unfold F_impl_WordsOfSquare
  refine J_seq ?_
  refine J_region ?_
  refine JL_q (wants_none rfl) rfl (ex_assign rfl) ?_
  refine JL_q (wants_none rfl) rfl (ex_assign rfl) ?_
  refine JL_q (wants_none rfl) rfl (ex_assign rfl) ?_
  refine JL_nil ?_
  refine N_then ?_
  refine J_seq ?_
  refine J_seq ?_
  refine J_region ?_
  refine JL_q (wants_none rfl) rfl (ex_move rfl) ?_
  refine JL_bnd fun r1 hr2 => ?_
  refine JL_call (wants_none rfl) rfl Try.call29 rfl (Ca_of0 fun w hh => c_impl_isSquare _ w (fun _ hk => hk.elim) _ _ (hh.rd0 0 rfl) _ hr2) (fun _ => ?_)
  refine JL_q (wants_none rfl) rfl (ex_not rfl) ?_
  refine JL_nil ?_
  refine N_then ?_
  refine J_if rfl (fun h3 => ?_) (fun h3 => ?_)
  · refine J_seq ?_
    refine J_region ?_
    refine JL_q (wants_none rfl) rfl (ex_assign rfl) ?_
    refine JL_q (wants_none rfl) rfl (ex_assign rfl) ?_
    refine JL_q (wants_none rfl) rfl (ex_assign rfl) ?_
    refine JL_nil ?_
    refine N_then ?_
    refine J_ret ?_
    refine N_then_ret ?_
    refine N_ctx (fun w hh => SH.ow_nil (α := Int) 2 hh) ?_
    refine N_ctx (fun w hh => SH.ow_nil (α := Int) 2 hh) ?_
    exact N_ret3 rfl (rv_tmp rfl) (rv_tmp rfl) (rv_tmp rfl) (fun w hh => ⟨((.slice none 0 0 : Value), (.slice none 0 0 : Value)), rfl, hh.sel [1, 0] rfl⟩)
  · refine J_skip ?_
    refine N_then ?_
    refine J_seq ?_
    refine J_cut' (S' := (List Int) × (List Int)) (G' := Value × Value × Nat) (fun s4 g5 => [(0, v0_), (5, .pointer (some ⟨g5.2.2, 0, none⟩))]) (fun s4 g5 => [.rd v0_ p0, .ow 2 g5.1 s4.1, .ow 2 g5.2.1 s4.2, .bx g5.2.2 54 [g5.1, g5.2.1]]) ?_ (fun s4 g5 => ?_)
    · refine J_draw [] (by kernel_rfl) ?_
      refine JP_take (i := 0) [0] [] rfl (by kernel_rfl) (by kernel_rfl) (by kernel_rfl) rfl rfl (wants_none rfl) rfl (ex_move rfl) ?_
      refine JP_bnd fun y6 hy7 => ?_
      refine JP_sq (i := 1) [] rfl (by kernel_rfl) (by kernel_rfl) (by kernel_rfl) rfl (wants_none rfl) rfl (sq_index 0 Try.underlying22 ti_24 rfl rfl rfl hy7) (fun q8 => ?_)
      refine JP_sq (i := 2) [] rfl (by kernel_rfl) (by kernel_rfl) (by kernel_rfl) rfl (wants_none rfl) rfl (sq_load_pt_o 0 (opens_sl _) ti_24 rfl rfl) (fun v9 => ?_)
      refine JP_take (i := 4) [0, 1, 2] [] rfl (by kernel_rfl) (by kernel_rfl) (by kernel_rfl) rfl rfl (wants_none rfl) rfl (ex_move rfl) ?_
      refine JP_bnd fun y10 hy11 => ?_
      refine JP_sq (i := 5) [] rfl (by kernel_rfl) (by kernel_rfl) (by kernel_rfl) rfl (wants_none rfl) rfl (sq_index 2 Try.underlying22 ti_24 rfl rfl rfl hy11) (fun q12 => ?_)
      refine JP_sq (i := 6) [] rfl (by kernel_rfl) (by kernel_rfl) (by kernel_rfl) rfl (wants_none rfl) rfl (sq_load_pt_o 0 (opens_sl _) ti_24 rfl rfl) (fun v13 => ?_)
      refine JP_go [0, 1, 2, 3, 4] [] rfl rfl rfl (fun w15 h1_16 hp14 => ?_)
      refine JD_bnd fun r17 hr18 => ?_
      refine JD_two (i := 3) (j := 9) (by kernel_rfl) ?_ ?_
      · refine JO_call rfl (wants_none rfl) rfl Try.call30 rfl (Ca_self (fun _ => rfl) fun w hh => c_impl_wordOfValue _ w (fun _ hk => hk.elim) _ _ (hh.rd0 2 rfl) _ hr18) (fun x19 => ?_)
        refine JD_bnd fun r20 hr21 => ?_
        refine JD_two (i := 7) (j := 9) (by kernel_rfl) ?_ ?_
        · refine JO_call rfl (wants_none rfl) rfl Try.call30 rfl (Ca_self (fun _ => rfl) fun w hh => c_impl_wordOfValue _ w (fun _ hk => hk.elim) _ _ (hh.rd0 1 rfl) _ hr21) (fun x22 => ?_)
          refine JD_two (i := 8) (j := 9) (by kernel_rfl) ?_ ?_
          · refine JO_q rfl (wants_none rfl) rfl (ex_build si_54 rfl (.cons fi_54_0 rfl rfl (.cons fi_54_1 rfl rfl .nil)) (fun w hh => ⟨(hh.cv_ow 1 rfl), (hh.cv_ow 0 rfl), trivial⟩)) ?_
            refine JD_one (i := 9) (by kernel_rfl) ?_
            refine JO_st rfl (wants_none rfl) rfl (st_alloc zi_54 rfl) (fun _ hk => nomatch hk) (fun b23 => ?_)
            refine JD_one (i := 10) (by kernel_rfl) ?_
            refine JO_sk2 0 [] [0, 1, 2, 3, 4] [3, 4, 5, 6, 7] rfl rfl rfl rfl rfl rfl (wants_none rfl) (sk_store_bx' 0 ti_54 rfl rfl (fun w hh => (cv_aggs ⟨(hh.cv_ow 2 rfl), (hh.cv_ow 1 rfl), trivial⟩)) rfl rfl rfl rfl) (fun _ hk => hk) ?_
            refine JD_done (by kernel_rfl) ?_
            exact N_meet' (x19, x22, b23) ⟨rfl, rfl, trivial⟩ [7, 2, 1, 0] rfl rfl
          · refine JO_st rfl (wants_none rfl) rfl (st_alloc zi_54 rfl) (fun _ hk => nomatch hk) (fun b24 => ?_)
            refine JD_one (i := 8) (by kernel_rfl) ?_
            refine JO_q rfl (wants_none rfl) rfl (ex_build si_54 rfl (.cons fi_54_0 rfl rfl (.cons fi_54_1 rfl rfl .nil)) (fun w hh => ⟨(hh.cv_ow 2 rfl), (hh.cv_ow 1 rfl), trivial⟩)) ?_
            refine JD_one (i := 10) (by kernel_rfl) ?_
            refine JO_sk2 0 [] [0, 1, 2, 3, 4] [3, 4, 5, 6, 7] rfl rfl rfl rfl rfl rfl (wants_none rfl) (sk_store_bx' 0 ti_54 rfl rfl (fun w hh => (cv_aggs ⟨(hh.cv_ow 2 rfl), (hh.cv_ow 1 rfl), trivial⟩)) rfl rfl rfl rfl) (fun _ hk => hk) ?_
            refine JD_done (by kernel_rfl) ?_
            exact N_meet' (x19, x22, b24) ⟨rfl, rfl, trivial⟩ [7, 2, 1, 0] rfl rfl
        · refine JO_st rfl (wants_none rfl) rfl (st_alloc zi_54 rfl) (fun _ hk => nomatch hk) (fun b25 => ?_)
          refine JD_one (i := 7) (by kernel_rfl) ?_
          refine JO_call rfl (wants_none rfl) rfl Try.call30 rfl (Ca_self (fun _ => rfl) fun w hh => c_impl_wordOfValue _ w (fun _ hk => hk.elim) _ _ (hh.rd0 2 rfl) _ hr21) (fun x26 => ?_)
          refine JD_one (i := 8) (by kernel_rfl) ?_
          refine JO_q rfl (wants_none rfl) rfl (ex_build si_54 rfl (.cons fi_54_0 rfl rfl (.cons fi_54_1 rfl rfl .nil)) (fun w hh => ⟨(hh.cv_ow 2 rfl), (hh.cv_ow 0 rfl), trivial⟩)) ?_
          refine JD_one (i := 10) (by kernel_rfl) ?_
          refine JO_sk2 1 [] [0, 1, 2, 3, 4] [3, 4, 5, 6, 7] rfl rfl rfl rfl rfl rfl (wants_none rfl) (sk_store_bx' 1 ti_54 rfl rfl (fun w hh => (cv_aggs ⟨(hh.cv_ow 2 rfl), (hh.cv_ow 0 rfl), trivial⟩)) rfl rfl rfl rfl) (fun _ hk => hk) ?_
          refine JD_done (by kernel_rfl) ?_
          exact N_meet' (x19, x26, b25) ⟨rfl, rfl, trivial⟩ [7, 2, 0, 1] rfl rfl
      · refine JO_st rfl (wants_none rfl) rfl (st_alloc zi_54 rfl) (fun _ hk => nomatch hk) (fun b27 => ?_)
        refine JD_one (i := 3) (by kernel_rfl) ?_
        refine JO_call rfl (wants_none rfl) rfl Try.call30 rfl (Ca_self (fun _ => rfl) fun w hh => c_impl_wordOfValue _ w (fun _ hk => hk.elim) _ _ (hh.rd0 3 rfl) _ hr18) (fun x28 => ?_)
        refine JD_bnd fun r29 hr30 => ?_
        refine JD_one (i := 7) (by kernel_rfl) ?_
        refine JO_call rfl (wants_none rfl) rfl Try.call30 rfl (Ca_self (fun _ => rfl) fun w hh => c_impl_wordOfValue _ w (fun _ hk => hk.elim) _ _ (hh.rd0 2 rfl) _ hr30) (fun x31 => ?_)
        refine JD_one (i := 8) (by kernel_rfl) ?_
        refine JO_q rfl (wants_none rfl) rfl (ex_build si_54 rfl (.cons fi_54_0 rfl rfl (.cons fi_54_1 rfl rfl .nil)) (fun w hh => ⟨(hh.cv_ow 1 rfl), (hh.cv_ow 0 rfl), trivial⟩)) ?_
        refine JD_one (i := 10) (by kernel_rfl) ?_
        refine JO_sk2 2 [] [0, 1, 2, 3, 4] [3, 4, 5, 6, 7] rfl rfl rfl rfl rfl rfl (wants_none rfl) (sk_store_bx' 2 ti_54 rfl rfl (fun w hh => (cv_aggs ⟨(hh.cv_ow 1 rfl), (hh.cv_ow 0 rfl), trivial⟩)) rfl rfl rfl rfl) (fun _ hk => hk) ?_
        refine JD_done (by kernel_rfl) ?_
        exact N_meet' (x28, x31, b27) ⟨rfl, rfl, trivial⟩ [7, 1, 0, 2] rfl rfl
    · obtain ⟨g5_0, g5_1, g5_2⟩ := g5
      refine N_then ?_
      refine J_seq ?_
      refine J_seq ?_
      refine J_region ?_
      refine JL_q (wants_none rfl) rfl (ex_load_bx_agg 3 ti_54 rfl rfl rfl rfl) ?_
      refine JL_bnd fun r32 hr33 => ?_
      refine JL_call (wants_none rfl) rfl Try.call31 rfl (Ca_of0 fun w hh => c_impl_validDomino _ w (fun _ hk => hk.elim) _ _ (GDomino.rdmk (hh.ow0 1 rfl) (hh.ow0 2 rfl)) _ hr33) (fun _ => ?_)
      refine JL_q (wants_none rfl) rfl (ex_not rfl) ?_
      refine JL_nil ?_
      refine N_then ?_
      refine J_if rfl (fun h34 => ?_) (fun h34 => ?_)
      · refine J_seq ?_
        refine J_region ?_
        refine JL_q (wants_none rfl) rfl (ex_assign rfl) ?_
        refine JL_q (wants_none rfl) rfl (ex_assign rfl) ?_
        refine JL_q (wants_none rfl) rfl (ex_assign rfl) ?_
        refine JL_nil ?_
        refine N_then ?_
        refine J_ret ?_
        refine N_then_ret ?_
        refine N_ctx (fun w hh => SH.ow_nil (α := Int) 2 hh) ?_
        refine N_ctx (fun w hh => SH.ow_nil (α := Int) 2 hh) ?_
        exact N_ret3 rfl (rv_tmp rfl) (rv_tmp rfl) (rv_tmp rfl) (fun w hh => ⟨((.slice none 0 0 : Value), (.slice none 0 0 : Value)), rfl, hh.sel [1, 0] rfl⟩)
      · refine J_skip ?_
        refine N_then ?_
        refine J_seq ?_
        refine J_region ?_
        refine JL_q (wants_none rfl) rfl (ex_load_bx_agg 3 ti_54 rfl rfl rfl rfl) ?_
        refine JL_bnd fun r35 hr36 => ?_
        refine JL_call (wants_none rfl) rfl Try.call32 rfl (Ca_self (fun _ => rfl) fun w hh => c_impl_squareOf _ w (fun _ hk => hk.elim) _ _ (GDomino.rdmk (hh.ow0 1 rfl) (hh.ow0 2 rfl)) _ hr36) (fun x37 => ?_)
        obtain ⟨x37_0, x37_1⟩ := x37
        refine JL_ctx (fun w hh => hh.tkn_rd 0 rfl) ?_
        refine JL_q (wants_none rfl) rfl (ex_move rfl) ?_
        refine JL_q (wants_none rfl) rfl (ex_extract rfl rfl) ?_
        refine JL_q (wants_none rfl) rfl (ex_extract rfl rfl) ?_
        refine JL_q (wants_none rfl) rfl (ex_assign rfl) ?_
        refine JL_q (wants_none rfl) rfl (ex_assign rfl) ?_
        refine JL_nil ?_
        refine N_then ?_
        refine J_seq ?_
        refine J_seq ?_
        refine J_region ?_
        refine JL_q (wants_none rfl) rfl (ex_move rfl) ?_
        refine JL_q (wants_none rfl) rfl (ex_neq rfl rfl) ?_
        refine JL_q (wants_none rfl) rfl (ex_move rfl) ?_
        refine JL_cond (fun h38 => ?_) (fun h38 => ?_)
        · refine JL_passed rfl rfl rfl h38 ?_
          refine JL_passed rfl rfl rfl h38 ?_
          refine JL_passed rfl rfl rfl h38 ?_
          refine JL_passed rfl rfl rfl h38 ?_
          refine JL_q (wants_none rfl) rfl (ex_pick_true rfl h38 rfl) ?_
          refine JL_nil ?_
          refine N_then ?_
          refine J_if_true rfl rfl ?_
          refine J_seq ?_
          refine J_region ?_
          refine JL_q (wants_none rfl) rfl (ex_assign rfl) ?_
          refine JL_q (wants_none rfl) rfl (ex_assign rfl) ?_
          refine JL_q (wants_none rfl) rfl (ex_assign rfl) ?_
          refine JL_nil ?_
          refine N_then ?_
          refine J_ret ?_
          refine N_then_ret ?_
          refine N_ctx (fun w hh => SH.ow_nil (α := Int) 2 hh) ?_
          refine N_ctx (fun w hh => SH.ow_nil (α := Int) 2 hh) ?_
          exact N_ret3 rfl (rv_tmp rfl) (rv_tmp rfl) (rv_tmp rfl) (fun w hh => ⟨((.slice none 0 0 : Value), (.slice none 0 0 : Value)), rfl, hh.sel [1, 0] rfl⟩)
        · refine JL_q (wants_some rfl rfl rfl h38) rfl (ex_move rfl) ?_
          refine JL_q (wants_some rfl rfl rfl h38) rfl (ex_move rfl) ?_
          refine JL_inline (wants_some rfl rfl rfl h38) rfl Try.call33 rfl Try.func33 rfl Try.ntmps33 rfl rfl (fun K_ hK39 => ?_)
          refine J_seq ?_
          refine J_region ?_
          refine JL_q (wants_none rfl) rfl (ex_assign rfl) ?_
          refine JL_nil ?_
          refine N_then ?_
          refine J_seq ?_
          refine J_seq ?_
          refine J_region ?_
          refine JL_q (wants_none rfl) rfl (ex_move rfl) ?_
          refine JL_q (wants_none rfl) rfl (ex_len_rd 2 Try.underlying22 rfl rfl) ?_
          refine JL_q (wants_none rfl) rfl (ex_move rfl) ?_
          refine JL_q (wants_none rfl) rfl (ex_len_rd 0 Try.underlying22 rfl rfl) ?_
          refine JL_q (wants_none rfl) rfl (ex_neq rfl rfl) ?_
          refine JL_nil ?_
          refine N_then ?_
          refine J_if rfl (fun h40 => ?_) (fun h40 => ?_)
          · refine J_seq ?_
            refine J_region ?_
            refine JL_q (wants_none rfl) rfl (ex_assign rfl) ?_
            refine JL_nil ?_
            refine N_then ?_
            refine J_ret ?_
            refine N_then_ret ?_
            refine N_inl1 hK39 rfl (rv_tmp rfl) ?_
            refine JL_q (wants_some rfl rfl rfl h38) rfl (ex_not rfl) ?_
            refine JL_q (wants_none rfl) rfl (ex_pick_false rfl h38 rfl) ?_
            refine JL_nil ?_
            refine N_then ?_
            refine J_if rfl (fun h41 => ?_) (fun h41 => ?_)
            · refine J_seq ?_
              refine J_region ?_
              refine JL_q (wants_none rfl) rfl (ex_assign rfl) ?_
              refine JL_q (wants_none rfl) rfl (ex_assign rfl) ?_
              refine JL_q (wants_none rfl) rfl (ex_assign rfl) ?_
              refine JL_nil ?_
              refine N_then ?_
              refine J_ret ?_
              refine N_then_ret ?_
              refine N_ctx (fun w hh => SH.ow_nil (α := Int) 2 hh) ?_
              refine N_ctx (fun w hh => SH.ow_nil (α := Int) 2 hh) ?_
              exact N_ret3 rfl (rv_tmp rfl) (rv_tmp rfl) (rv_tmp rfl) (fun w hh => ⟨((.slice none 0 0 : Value), (.slice none 0 0 : Value)), rfl, hh.sel [1, 0] rfl⟩)
            · refine J_skip ?_
              refine N_then ?_
              refine J_seq ?_
              refine J_draw [] (by kernel_rfl) ?_
              refine JP_take (i := 0) [0, 1, 2, 3, 4, 5] [] rfl (by kernel_rfl) (by kernel_rfl) (by kernel_rfl) rfl rfl (wants_none rfl) rfl (ex_fieldAddr fi_54_0 rfl rfl) ?_
              refine JP_take (i := 1) [0, 1, 2, 3, 4, 5] [] rfl (by kernel_rfl) (by kernel_rfl) (by kernel_rfl) rfl rfl (wants_none rfl) rfl (ex_load_bx 5 ti_24 rfl rfl rfl) ?_
              refine JP_take (i := 2) [0, 1, 2, 3, 4, 5] [] rfl (by kernel_rfl) (by kernel_rfl) (by kernel_rfl) rfl rfl (wants_none rfl) rfl (ex_fieldAddr fi_54_1 rfl rfl) ?_
              refine JP_take (i := 3) [0, 1, 2, 3, 4, 5] [] rfl (by kernel_rfl) (by kernel_rfl) (by kernel_rfl) rfl rfl (wants_none rfl) rfl (ex_load_bx 5 ti_24 rfl rfl rfl) ?_
              refine JP_take (i := 4) [0, 1, 2, 3, 4, 5] [] rfl (by kernel_rfl) (by kernel_rfl) (by kernel_rfl) rfl rfl (wants_none rfl) rfl (ex_assign rfl) ?_
              refine JP_take (i := 5) [0, 1, 2, 3, 4, 5] [] rfl (by kernel_rfl) (by kernel_rfl) (by kernel_rfl) rfl rfl (wants_none rfl) rfl (ex_assign rfl) ?_
              refine JP_take (i := 6) [0, 1, 2, 3, 4, 5] [] rfl (by kernel_rfl) (by kernel_rfl) (by kernel_rfl) rfl rfl (wants_none rfl) rfl (ex_assign rfl) ?_
              refine JP_go [] [] rfl rfl rfl (fun _ _ _ => ?_)
              refine JD_done (by kernel_rfl) ?_
              refine N_then ?_
              refine J_ret ?_
              exact N_ret3 rfl (rv_tmp rfl) (rv_tmp rfl) (rv_tmp rfl) (fun w hh => ⟨(g5_0, g5_1), rfl, hh.sel [3, 4] rfl⟩)
          · refine J_skip ?_
            refine N_then ?_
            refine J_seq ?_
            refine J_seq ?_
            refine J_region ?_
            refine JL_q (wants_none rfl) rfl (ex_move rfl) ?_
            refine JL_q (wants_none rfl) rfl (ex_len_rd 2 Try.underlying22 rfl rfl) ?_
            refine JL_q (wants_none rfl) rfl (ex_move rfl) ?_
            refine JL_nil ?_
            refine N_then ?_
            refine J_loop' (S := Int) (G := Unit) (F_impl_WordsOfSquare_L1 p0 s4 r35) (fun s42 _ => [(1, x37_0), (2, .func (.func 34) #[] #[]), (15, v0_), (16, .int .i64 (p0.length : Int)), (17, .int .i64 s42)]) (fun s42 _ => [.rd x37_0 r35.1, .tkn x37_0 r35.1 x37_1, .rd v0_ p0, .ow 2 g5_0 s4.1, .ow 2 g5_1 s4.2, .bx g5_2 54 [g5_0, g5_1]]) 0 () ⟨rfl, rfl, rfl, rfl, rfl, trivial⟩ [0, 1, 2, 3, 4, 5] rfl rfl (fun s42 g43 => ?_) (fun s42 g43 => ?_)
            · unfold F_impl_WordsOfSquare_L1
              refine J_seq ?_
              refine J_region ?_
              refine JL_q (wants_none rfl) rfl (ex_lss rfl rfl) ?_
              refine JL_nil ?_
              refine N_then ?_
              refine J_seq ?_
              refine J_if rfl (fun h44 => ?_) (fun h44 => ?_)
              · refine J_skip ?_
                refine N_then ?_
                refine J_seq ?_
                refine J_block ?_
                refine J_seq ?_
                refine J_region ?_
                refine JL_q (wants_none rfl) rfl (ex_move rfl) ?_
                refine JL_bnd fun y45 hy46 => ?_
                refine JL_st (wants_none rfl) rfl (st_index 2 Try.underlying22 ti_24 rfl rfl rfl hy46) (fun q47 => ?_)
                refine JL_st (wants_none rfl) rfl (st_load_pt_o 0 (opens_sl _) ti_24 rfl rfl) (fun v48 => ?_)
                refine JL_q (wants_none rfl) rfl (ex_assign rfl) ?_
                refine JL_q (wants_none rfl) rfl (ex_assign rfl) ?_
                refine JL_nil ?_
                refine N_then ?_
                refine J_seq ?_
                refine J_region ?_
                refine JL_q (wants_none rfl) rfl (ex_move rfl) ?_
                refine JL_q (wants_none rfl) rfl (ex_move rfl) ?_
                refine JL_bnd fun y49 hy50 => ?_
                refine JL_st (wants_none rfl) rfl (st_index 2 Try.underlying22 ti_24 rfl rfl rfl hy50) (fun q51 => ?_)
                refine JL_st (wants_none rfl) rfl (st_load_pt_o 0 (opens_sl _) ti_24 rfl rfl) (fun v52 => ?_)
                refine JL_q (wants_none rfl) rfl (ex_assign rfl) ?_
                refine JL_nil ?_
                refine N_then ?_
                refine J_seq ?_
                refine J_region ?_
                refine JL_q (wants_none rfl) rfl (ex_move rfl) ?_
                refine JL_q (wants_none rfl) rfl (ex_move rfl) ?_
                refine JL_q (wants_none rfl) rfl (ex_move rfl) ?_
                refine JL_bnd fun r53 hr54 => ?_
                refine JL_callv (args := [_, _]) (caps := []) (wants_none rfl) rfl Try.call34 rfl rfl (Ca_of0 fun w hh => c_slices_Equal_Sint64_int64 nowhere w (fun _ hk => hk.elim) _ _ (hh.rd0 2 rfl) _ _ (hh.rd0 0 rfl)  _ hr54) (fun _ => ?_)
                refine JL_q (wants_none rfl) rfl (ex_not rfl) ?_
                refine JL_nil ?_
                refine N_then ?_
                refine J_if rfl (fun h55 => ?_) (fun h55 => ?_)
                · refine J_seq ?_
                  refine J_region ?_
                  refine JL_q (wants_none rfl) rfl (ex_assign rfl) ?_
                  refine JL_nil ?_
                  refine N_then ?_
                  refine J_ret ?_
                  refine N_block_ret ?_
                  refine N_then_ret ?_
                  refine N_round_reti ?_
                  refine N_then_ret ?_
                  refine N_inl1 hK39 rfl (rv_tmp rfl) ?_
                  refine JL_q (wants_some rfl rfl rfl h38) rfl (ex_not rfl) ?_
                  refine JL_q (wants_none rfl) rfl (ex_pick_false rfl h38 rfl) ?_
                  refine JL_nil ?_
                  refine N_then ?_
                  refine J_if rfl (fun h56 => ?_) (fun h56 => ?_)
                  · refine J_seq ?_
                    refine J_region ?_
                    refine JL_q (wants_none rfl) rfl (ex_assign rfl) ?_
                    refine JL_q (wants_none rfl) rfl (ex_assign rfl) ?_
                    refine JL_q (wants_none rfl) rfl (ex_assign rfl) ?_
                    refine JL_nil ?_
                    refine N_then ?_
                    refine J_ret ?_
                    refine N_then_ret ?_
                    refine N_ctx (fun w hh => SH.ow_nil (α := Int) 2 hh) ?_
                    refine N_ctx (fun w hh => SH.ow_nil (α := Int) 2 hh) ?_
                    exact N_ret3 rfl (rv_tmp rfl) (rv_tmp rfl) (rv_tmp rfl) (fun w hh => ⟨((.slice none 0 0 : Value), (.slice none 0 0 : Value)), rfl, hh.sel [1, 0] rfl⟩)
                  · refine J_skip ?_
                    refine N_then ?_
                    refine J_seq ?_
                    refine J_draw [] (by kernel_rfl) ?_
                    refine JP_take (i := 0) [0, 1, 2, 3, 4, 5, 6, 7, 8, 9] [] rfl (by kernel_rfl) (by kernel_rfl) (by kernel_rfl) rfl rfl (wants_none rfl) rfl (ex_fieldAddr fi_54_0 rfl rfl) ?_
                    refine JP_take (i := 1) [0, 1, 2, 3, 4, 5, 6, 7, 8, 9] [] rfl (by kernel_rfl) (by kernel_rfl) (by kernel_rfl) rfl rfl (wants_none rfl) rfl (ex_load_bx 9 ti_24 rfl rfl rfl) ?_
                    refine JP_take (i := 2) [0, 1, 2, 3, 4, 5, 6, 7, 8, 9] [] rfl (by kernel_rfl) (by kernel_rfl) (by kernel_rfl) rfl rfl (wants_none rfl) rfl (ex_fieldAddr fi_54_1 rfl rfl) ?_
                    refine JP_take (i := 3) [0, 1, 2, 3, 4, 5, 6, 7, 8, 9] [] rfl (by kernel_rfl) (by kernel_rfl) (by kernel_rfl) rfl rfl (wants_none rfl) rfl (ex_load_bx 9 ti_24 rfl rfl rfl) ?_
                    refine JP_take (i := 4) [0, 1, 2, 3, 4, 5, 6, 7, 8, 9] [] rfl (by kernel_rfl) (by kernel_rfl) (by kernel_rfl) rfl rfl (wants_none rfl) rfl (ex_assign rfl) ?_
                    refine JP_take (i := 5) [0, 1, 2, 3, 4, 5, 6, 7, 8, 9] [] rfl (by kernel_rfl) (by kernel_rfl) (by kernel_rfl) rfl rfl (wants_none rfl) rfl (ex_assign rfl) ?_
                    refine JP_take (i := 6) [0, 1, 2, 3, 4, 5, 6, 7, 8, 9] [] rfl (by kernel_rfl) (by kernel_rfl) (by kernel_rfl) rfl rfl (wants_none rfl) rfl (ex_assign rfl) ?_
                    refine JP_go [] [] rfl rfl rfl (fun _ _ _ => ?_)
                    refine JD_done (by kernel_rfl) ?_
                    refine N_then ?_
                    refine J_ret ?_
                    exact N_ret3 rfl (rv_tmp rfl) (rv_tmp rfl) (rv_tmp rfl) (fun w hh => ⟨(g5_0, g5_1), rfl, hh.sel [7, 8] rfl⟩)
                · refine J_skip ?_
                  refine N_block ?_
                  refine N_then ?_
                  refine J_region ?_
                  refine JL_q (wants_none rfl) rfl (ex_add rfl rfl) ?_
                  refine JL_q (wants_none rfl) rfl (ex_move rfl) ?_
                  refine JL_nil ?_
                  exact N_next' () ⟨rfl, rfl, rfl, rfl, rfl, trivial⟩ [4, 5, 6, 7, 8, 9] rfl rfl
              · refine J_exit ?_
                refine N_then_exit ?_
                exact N_break' () ⟨rfl, rfl, rfl, rfl, rfl, trivial⟩ [0, 1, 2, 3, 4, 5] rfl rfl
            · refine N_then ?_
              refine J_seq ?_
              refine J_region ?_
              refine JL_q (wants_none rfl) rfl (ex_assign rfl) ?_
              refine JL_nil ?_
              refine N_then ?_
              refine J_ret ?_
              refine N_inl1 hK39 rfl (rv_tmp rfl) ?_
              refine JL_q (wants_some rfl rfl rfl h38) rfl (ex_not rfl) ?_
              refine JL_q (wants_none rfl) rfl (ex_pick_false rfl h38 rfl) ?_
              refine JL_nil ?_
              refine N_then ?_
              refine J_if rfl (fun h57 => ?_) (fun h57 => ?_)
              · refine J_seq ?_
                refine J_region ?_
                refine JL_q (wants_none rfl) rfl (ex_assign rfl) ?_
                refine JL_q (wants_none rfl) rfl (ex_assign rfl) ?_
                refine JL_q (wants_none rfl) rfl (ex_assign rfl) ?_
                refine JL_nil ?_
                refine N_then ?_
                refine J_ret ?_
                refine N_then_ret ?_
                refine N_ctx (fun w hh => SH.ow_nil (α := Int) 2 hh) ?_
                refine N_ctx (fun w hh => SH.ow_nil (α := Int) 2 hh) ?_
                exact N_ret3 rfl (rv_tmp rfl) (rv_tmp rfl) (rv_tmp rfl) (fun w hh => ⟨((.slice none 0 0 : Value), (.slice none 0 0 : Value)), rfl, hh.sel [1, 0] rfl⟩)
              · refine J_skip ?_
                refine N_then ?_
                refine J_seq ?_
                refine J_draw [] (by kernel_rfl) ?_
                refine JP_take (i := 0) [0, 1, 2, 3, 4, 5] [] rfl (by kernel_rfl) (by kernel_rfl) (by kernel_rfl) rfl rfl (wants_none rfl) rfl (ex_fieldAddr fi_54_0 rfl rfl) ?_
                refine JP_take (i := 1) [0, 1, 2, 3, 4, 5] [] rfl (by kernel_rfl) (by kernel_rfl) (by kernel_rfl) rfl rfl (wants_none rfl) rfl (ex_load_bx 5 ti_24 rfl rfl rfl) ?_
                refine JP_take (i := 2) [0, 1, 2, 3, 4, 5] [] rfl (by kernel_rfl) (by kernel_rfl) (by kernel_rfl) rfl rfl (wants_none rfl) rfl (ex_fieldAddr fi_54_1 rfl rfl) ?_
                refine JP_take (i := 3) [0, 1, 2, 3, 4, 5] [] rfl (by kernel_rfl) (by kernel_rfl) (by kernel_rfl) rfl rfl (wants_none rfl) rfl (ex_load_bx 5 ti_24 rfl rfl rfl) ?_
                refine JP_take (i := 4) [0, 1, 2, 3, 4, 5] [] rfl (by kernel_rfl) (by kernel_rfl) (by kernel_rfl) rfl rfl (wants_none rfl) rfl (ex_assign rfl) ?_
                refine JP_take (i := 5) [0, 1, 2, 3, 4, 5] [] rfl (by kernel_rfl) (by kernel_rfl) (by kernel_rfl) rfl rfl (wants_none rfl) rfl (ex_assign rfl) ?_
                refine JP_take (i := 6) [0, 1, 2, 3, 4, 5] [] rfl (by kernel_rfl) (by kernel_rfl) (by kernel_rfl) rfl rfl (wants_none rfl) rfl (ex_assign rfl) ?_
                refine JP_go [] [] rfl rfl rfl (fun _ _ _ => ?_)
                refine JD_done (by kernel_rfl) ?_
                refine N_then ?_
                refine J_ret ?_
                exact N_ret3 rfl (rv_tmp rfl) (rv_tmp rfl) (rv_tmp rfl) (fun w hh => ⟨(g5_0, g5_1), rfl, hh.sel [3, 4] rfl⟩)

set_option maxHeartbeats 4000000 in
theorem c_laws_FnExactWordsOfSquare (A : Nat → Prop) (w : World) (hA : ∀ k, A k → k < w.heap.size) (v0_ : Value) (p0 : (List (List Int))) (hp0 : Rd A w v0_ p0) (r : Bool) (hr : F_laws_FnExactWordsOfSquare p0 = some r) :
    Con Try.prog 3 [v0_] A w (fun x_ : Unit => .bool r) (fun x_ => []) := by
  refine Con_of (v := fun (r : Bool) (x_ : Unit) => .bool r) (fs := fun r x_ => []) Try.func3 rfl Try.ntmps3 rfl ((SH.start hA).start_rd rfl hp0) rfl ?_ hr
  unfold F_laws_FnExactWordsOfSquare
  refine J_seq ?_
  refine J_region ?_
  refine JL_q (wants_none rfl) rfl (ex_assign rfl) ?_
  refine JL_nil ?_
  refine N_then ?_
  refine J_seq ?_
  refine J_region ?_
  refine JL_q (wants_none rfl) rfl (ex_assign rfl) ?_
  refine JL_nil ?_
  refine N_then ?_
  refine J_seq ?_
  refine J_region ?_
  refine JL_q (wants_none rfl) rfl (ex_move rfl) ?_
  refine JL_q (wants_none rfl) rfl (ex_move rfl) ?_
  refine JL_bnd fun r1 hr2 => ?_
  refine JL_call (wants_none rfl) rfl Try.call5 rfl (Ca_of0 fun w hh => c_laws_szInt64SS _ w (fun _ hk => hk.elim) _ _ (hh.rd0 0 rfl) _ _ hr2) (fun _ => ?_)
  refine JL_q (wants_none rfl) rfl (ex_assign rfl) ?_
  refine JL_nil ?_
  refine N_then ?_
  refine J_seq ?_
  refine J_seq ?_
  refine J_region ?_
  refine JL_q (wants_none rfl) rfl (ex_move rfl) ?_
  refine JL_q (wants_none rfl) rfl (ex_lss rfl rfl) ?_
  refine JL_nil ?_
  refine N_then ?_
  refine J_if rfl (fun h3 => ?_) (fun h3 => ?_)
  · refine J_seq ?_
    refine J_region ?_
    refine JL_q (wants_none rfl) rfl (ex_assign rfl) ?_
    refine JL_nil ?_
    refine N_then ?_
    refine J_ret ?_
    refine N_then_ret ?_
    exact N_ret1 rfl (rv_tmp rfl) (fun w hh => ⟨(), rfl, hh.sel [] rfl⟩)
  · refine J_skip ?_
    refine N_then ?_
    refine J_seq ?_
    refine J_region ?_
    refine JL_q (wants_none rfl) rfl (ex_move rfl) ?_
    refine JL_bnd fun r4 hr5 => ?_
    refine JL_call (wants_none rfl) rfl Try.call7 rfl (Ca_self (fun _ => rfl) fun w hh => c_laws_toInt64SS _ w (fun _ hk => hk.elim) _ _ (hh.rd0 0 rfl) _ hr5) (fun x6 => ?_)
    obtain ⟨x6_0, x6_1⟩ := x6
    refine JL_bnd fun r7 hr8 => ?_
    refine JL_call (wants_none rfl) rfl Try.call6 rfl (Ca_self (fun _ => rfl) fun w hh => c_spec_WordsOfSquare _ w (fun _ hk => hk.elim) _ _ (hh.od0 0 rfl) _ hr8) (fun x9 => ?_)
    obtain ⟨x9_0, x9_1⟩ := x9
    refine JL_q (wants_none rfl) rfl (ex_move rfl) ?_
    refine JL_q (wants_none rfl) rfl (ex_extract rfl rfl) ?_
    refine JL_q (wants_none rfl) rfl (ex_extract rfl rfl) ?_
    refine JL_q (wants_none rfl) rfl (ex_extract rfl rfl) ?_
    refine JL_q (wants_none rfl) rfl (ex_assign rfl) ?_
    refine JL_q (wants_none rfl) rfl (ex_assign rfl) ?_
    refine JL_q (wants_none rfl) rfl (ex_assign rfl) ?_
    refine JL_nil ?_
    refine N_then ?_
    refine J_seq ?_
    refine J_region ?_
    refine JL_q (wants_none rfl) rfl (ex_move rfl) ?_
    refine JL_bnd fun r10 hr11 => ?_
    refine JL_call (wants_none rfl) rfl Try.call7 rfl (Ca_self (fun _ => rfl) fun w hh => c_laws_toInt64SS _ w (fun _ hk => hk.elim) _ _ (hh.rd0 3 rfl) _ hr11) (fun x12 => ?_)
    obtain ⟨x12_0, x12_1⟩ := x12
    refine JL_q (wants_none rfl) rfl (ex_assign rfl) ?_
    refine JL_nil ?_
    refine N_then ?_
    refine J_seq ?_
    refine J_region ?_
    refine JL_q (wants_none rfl) rfl (ex_move rfl) ?_
    refine JL_bnd fun r13 hr14 => ?_
    refine JL_call (wants_none rfl) rfl Try.call8 rfl (Ca_self (fun _ => rfl) fun w hh => c_impl_WordsOfSquare _ w (fun _ hk => hk.elim) _ _ (hh.od0 0 rfl) _ hr14) (fun x15 => ?_)
    obtain ⟨x15_0, x15_1⟩ := x15
    refine JL_q (wants_none rfl) rfl (ex_move rfl) ?_
    refine JL_q (wants_none rfl) rfl (ex_extract rfl rfl) ?_
    refine JL_q (wants_none rfl) rfl (ex_extract rfl rfl) ?_
    refine JL_q (wants_none rfl) rfl (ex_extract rfl rfl) ?_
    refine JL_q (wants_none rfl) rfl (ex_assign rfl) ?_
    refine JL_q (wants_none rfl) rfl (ex_assign rfl) ?_
    refine JL_q (wants_none rfl) rfl (ex_assign rfl) ?_
    refine JL_nil ?_
    refine N_then ?_
    refine J_seq ?_
    refine J_cut' (S' := Unit) (G' := Unit) (fun _ _ => [(0, v0_), (4, x9_0), (5, x9_1), (6, .int .i64 r7.2.2), (7, x12_0), (8, x15_0), (9, x15_1), (10, .int .i64 r13.2.2)]) (fun _ _ => [.rd v0_ p0, .ow 2 x9_0 r7.1, .ow 2 x9_1 r7.2.1, .od 24 x12_0 r10 x12_1, .ow 2 x15_0 r13.1, .ow 2 x15_1 r13.2.1]) ?_ (fun s16 g17 => ?_)
    · refine J_seq ?_
      refine J_region ?_
      refine JL_q (wants_none rfl) rfl (ex_move rfl) ?_
      refine JL_q (wants_none rfl) rfl (ex_move rfl) ?_
      refine JL_bnd fun r18 hr19 => ?_
      refine JL_call (wants_none rfl) rfl Try.call9 rfl (Ca_of0 fun w hh => c_laws_eqInt64S _ w (fun _ hk => hk.elim) _ _ (hh.ow0 0 rfl) _ _ (hh.ow0 3 rfl) _ hr19) (fun _ => ?_)
      refine JL_q (wants_none rfl) rfl (ex_not rfl) ?_
      refine JL_q (wants_none rfl) rfl (ex_move rfl) ?_
      refine JL_cond (fun h20 => ?_) (fun h20 => ?_)
      · refine JL_passed rfl rfl rfl h20 ?_
        refine JL_passed rfl rfl rfl h20 ?_
        refine JL_passed rfl rfl rfl h20 ?_
        refine JL_passed rfl rfl rfl h20 ?_
        refine JL_q (wants_none rfl) rfl (ex_pick_true rfl h20 rfl) ?_
        refine JL_q (wants_none rfl) rfl (ex_move rfl) ?_
        refine JL_passed rfl rfl rfl rfl ?_
        refine JL_passed rfl rfl rfl rfl ?_
        refine JL_passed rfl rfl rfl rfl ?_
        refine JL_q (wants_none rfl) rfl (ex_pick_true rfl rfl rfl) ?_
        refine JL_nil ?_
        refine N_then ?_
        refine J_if_true rfl rfl ?_
        refine J_seq ?_
        refine J_region ?_
        refine JL_q (wants_none rfl) rfl (ex_assign rfl) ?_
        refine JL_nil ?_
        refine N_then ?_
        refine J_ret ?_
        refine N_mid_ret ?_
        refine N_then_ret ?_
        exact N_ret1 rfl (rv_tmp rfl) (fun w hh => ⟨(), rfl, hh.sel [] rfl⟩)
      · refine JL_q (wants_some rfl rfl rfl h20) rfl (ex_move rfl) ?_
        refine JL_q (wants_some rfl rfl rfl h20) rfl (ex_move rfl) ?_
        refine JL_bnd fun r21 hr22 => ?_
        refine JL_call (wants_some rfl rfl rfl h20) rfl Try.call9 rfl (Ca_of0 fun w hh => c_laws_eqInt64S _ w (fun _ hk => hk.elim) _ _ (hh.ow0 1 rfl) _ _ (hh.ow0 4 rfl) _ hr22) (fun _ => ?_)
        refine JL_q (wants_some rfl rfl rfl h20) rfl (ex_not rfl) ?_
        refine JL_q (wants_none rfl) rfl (ex_pick_false rfl h20 rfl) ?_
        refine JL_q (wants_none rfl) rfl (ex_move rfl) ?_
        refine JL_cond (fun h23 => ?_) (fun h23 => ?_)
        · refine JL_passed rfl rfl rfl h23 ?_
          refine JL_passed rfl rfl rfl h23 ?_
          refine JL_passed rfl rfl rfl h23 ?_
          refine JL_q (wants_none rfl) rfl (ex_pick_true rfl h23 rfl) ?_
          refine JL_nil ?_
          refine N_then ?_
          refine J_if_true rfl rfl ?_
          refine J_seq ?_
          refine J_region ?_
          refine JL_q (wants_none rfl) rfl (ex_assign rfl) ?_
          refine JL_nil ?_
          refine N_then ?_
          refine J_ret ?_
          refine N_mid_ret ?_
          refine N_then_ret ?_
          exact N_ret1 rfl (rv_tmp rfl) (fun w hh => ⟨(), rfl, hh.sel [] rfl⟩)
        · refine JL_q (wants_some rfl rfl rfl h23) rfl (ex_move rfl) ?_
          refine JL_q (wants_some rfl rfl rfl h23) rfl (ex_move rfl) ?_
          refine JL_q (wants_some rfl rfl rfl h23) rfl (ex_neq rfl rfl) ?_
          refine JL_q (wants_none rfl) rfl (ex_pick_false rfl h23 rfl) ?_
          refine JL_nil ?_
          refine N_then ?_
          refine J_if rfl (fun h24 => ?_) (fun h24 => ?_)
          · refine J_seq ?_
            refine J_region ?_
            refine JL_q (wants_none rfl) rfl (ex_assign rfl) ?_
            refine JL_nil ?_
            refine N_then ?_
            refine J_ret ?_
            refine N_mid_ret ?_
            refine N_then_ret ?_
            exact N_ret1 rfl (rv_tmp rfl) (fun w hh => ⟨(), rfl, hh.sel [] rfl⟩)
          · refine J_skip ?_
            exact N_meet' () ⟨rfl, rfl, rfl, rfl, rfl, rfl, rfl, rfl, trivial⟩ [6, 3, 4, 2, 0, 1] rfl rfl
    · refine N_then ?_
      refine J_seq ?_
      refine J_seq ?_
      refine J_region ?_
      refine JL_q (wants_none rfl) rfl (ex_move rfl) ?_
      refine JL_q (wants_none rfl) rfl (ex_move rfl) ?_
      refine JL_bnd fun r25 hr26 => ?_
      refine JL_call (wants_none rfl) rfl Try.call7 rfl (Ca_self (fun _ => rfl) fun w hh => c_laws_toInt64SS _ w (fun _ hk => hk.elim) _ _ (hh.rd0 0 rfl) _ hr26) (fun x27 => ?_)
      obtain ⟨x27_0, x27_1⟩ := x27
      refine JL_bnd fun r28 hr29 => ?_
      refine JL_call (wants_none rfl) rfl Try.call10 rfl (Ca_of0 fun w hh => c_laws_eqInt64SS _ w (fun _ hk => hk.elim) _ _ (hh.od0 4 rfl) _ _ (hh.od0 0 rfl) _ hr29) (fun _ => ?_)
      refine JL_q (wants_none rfl) rfl (ex_not rfl) ?_
      refine JL_nil ?_
      refine N_then ?_
      refine J_if rfl (fun h30 => ?_) (fun h30 => ?_)
      · refine J_seq ?_
        refine J_region ?_
        refine JL_q (wants_none rfl) rfl (ex_assign rfl) ?_
        refine JL_nil ?_
        refine N_then ?_
        refine J_ret ?_
        refine N_then_ret ?_
        exact N_ret1 rfl (rv_tmp rfl) (fun w hh => ⟨(), rfl, hh.sel [] rfl⟩)
      · refine J_skip ?_
        refine N_then ?_
        refine J_seq ?_
        refine J_region ?_
        refine JL_q (wants_none rfl) rfl (ex_assign rfl) ?_
        refine JL_nil ?_
        refine N_then ?_
        refine J_seq ?_
        refine J_region ?_
        refine JL_q (wants_none rfl) rfl (ex_move rfl) ?_
        refine JL_q (wants_none rfl) rfl (ex_move rfl) ?_
        refine JL_bnd fun r31 hr32 => ?_
        refine JL_ctx (fun w hh => hh.tok 4 rfl) ?_
        refine JL_mark 0 [1, 3, 4, 6, 7] mk_laws_markInt64SS (wants_none rfl) rfl Try.call11 rfl rfl rfl rfl ((SH.start hA).start_rd rfl hp0) rfl hr32 ?_
        refine JL_q (wants_none rfl) rfl (ex_assign rfl) ?_
        refine JL_nil ?_
        refine N_then ?_
        refine J_seq ?_
        refine J_cut' (S' := Unit) (G' := Unit) (fun _ _ => [(0, v0_), (4, x9_0), (5, x9_1), (6, .int .i64 r7.2.2), (8, x15_0), (9, x15_1)]) (fun _ _ => [.rd v0_ p0, .ow 2 x9_0 r7.1, .ow 2 x9_1 r7.2.1, .ow 2 x15_0 r13.1, .ow 2 x15_1 r13.2.1]) ?_ (fun s33 g34 => ?_)
        · refine J_seq ?_
          refine J_region ?_
          refine JL_q (wants_none rfl) rfl (ex_move rfl) ?_
          refine JL_q (wants_none rfl) rfl (ex_lss rfl rfl) ?_
          refine JL_q (wants_none rfl) rfl (ex_move rfl) ?_
          refine JL_cond (fun h35 => ?_) (fun h35 => ?_)
          · refine JL_passed rfl rfl rfl h35 ?_
            refine JL_passed rfl rfl rfl h35 ?_
            refine JL_passed rfl rfl rfl h35 ?_
            refine JL_passed rfl rfl rfl h35 ?_
            refine JL_q (wants_none rfl) rfl (ex_pick_true rfl h35 rfl) ?_
            refine JL_q (wants_none rfl) rfl (ex_move rfl) ?_
            refine JL_passed rfl rfl rfl rfl ?_
            refine JL_passed rfl rfl rfl rfl ?_
            refine JL_passed rfl rfl rfl rfl ?_
            refine JL_passed rfl rfl rfl rfl ?_
            refine JL_q (wants_none rfl) rfl (ex_pick_true rfl rfl rfl) ?_
            refine JL_q (wants_none rfl) rfl (ex_move rfl) ?_
            refine JL_passed rfl rfl rfl rfl ?_
            refine JL_passed rfl rfl rfl rfl ?_
            refine JL_passed rfl rfl rfl rfl ?_
            refine JL_q (wants_none rfl) rfl (ex_pick_true rfl rfl rfl) ?_
            refine JL_nil ?_
            refine N_then ?_
            refine J_if_true rfl rfl ?_
            refine J_seq ?_
            refine J_region ?_
            refine JL_q (wants_none rfl) rfl (ex_assign rfl) ?_
            refine JL_nil ?_
            refine N_then ?_
            refine J_ret ?_
            refine N_mid_ret ?_
            refine N_then_ret ?_
            exact N_ret1 rfl (rv_tmp rfl) (fun w hh => ⟨(), rfl, hh.sel [] rfl⟩)
          · refine JL_q (wants_some rfl rfl rfl h35) rfl (ex_move rfl) ?_
            refine JL_q (wants_some rfl rfl rfl h35) rfl (ex_move rfl) ?_
            refine JL_bnd fun r36 hr37 => ?_
            refine JL_call (wants_some rfl rfl rfl h35) rfl Try.call9 rfl (Ca_of0 fun w hh => c_laws_eqInt64S _ w (fun _ hk => hk.elim) _ _ (hh.ow0 6 rfl) _ _ (hh.ow0 4 rfl) _ hr37) (fun _ => ?_)
            refine JL_q (wants_some rfl rfl rfl h35) rfl (ex_not rfl) ?_
            refine JL_q (wants_none rfl) rfl (ex_pick_false rfl h35 rfl) ?_
            refine JL_q (wants_none rfl) rfl (ex_move rfl) ?_
            refine JL_cond (fun h38 => ?_) (fun h38 => ?_)
            · refine JL_passed rfl rfl rfl h38 ?_
              refine JL_passed rfl rfl rfl h38 ?_
              refine JL_passed rfl rfl rfl h38 ?_
              refine JL_passed rfl rfl rfl h38 ?_
              refine JL_q (wants_none rfl) rfl (ex_pick_true rfl h38 rfl) ?_
              refine JL_q (wants_none rfl) rfl (ex_move rfl) ?_
              refine JL_passed rfl rfl rfl rfl ?_
              refine JL_passed rfl rfl rfl rfl ?_
              refine JL_passed rfl rfl rfl rfl ?_
              refine JL_q (wants_none rfl) rfl (ex_pick_true rfl rfl rfl) ?_
              refine JL_nil ?_
              refine N_then ?_
              refine J_if_true rfl rfl ?_
              refine J_seq ?_
              refine J_region ?_
              refine JL_q (wants_none rfl) rfl (ex_assign rfl) ?_
              refine JL_nil ?_
              refine N_then ?_
              refine J_ret ?_
              refine N_mid_ret ?_
              refine N_then_ret ?_
              exact N_ret1 rfl (rv_tmp rfl) (fun w hh => ⟨(), rfl, hh.sel [] rfl⟩)
            · refine JL_q (wants_some rfl rfl rfl h38) rfl (ex_move rfl) ?_
              refine JL_q (wants_some rfl rfl rfl h38) rfl (ex_move rfl) ?_
              refine JL_bnd fun r39 hr40 => ?_
              refine JL_call (wants_some rfl rfl rfl h38) rfl Try.call9 rfl (Ca_of0 fun w hh => c_laws_eqInt64S _ w (fun _ hk => hk.elim) _ _ (hh.ow0 7 rfl) _ _ (hh.ow0 5 rfl) _ hr40) (fun _ => ?_)
              refine JL_q (wants_some rfl rfl rfl h38) rfl (ex_not rfl) ?_
              refine JL_q (wants_none rfl) rfl (ex_pick_false rfl h38 rfl) ?_
              refine JL_q (wants_none rfl) rfl (ex_move rfl) ?_
              refine JL_cond (fun h41 => ?_) (fun h41 => ?_)
              · refine JL_passed rfl rfl rfl h41 ?_
                refine JL_passed rfl rfl rfl h41 ?_
                refine JL_passed rfl rfl rfl h41 ?_
                refine JL_q (wants_none rfl) rfl (ex_pick_true rfl h41 rfl) ?_
                refine JL_nil ?_
                refine N_then ?_
                refine J_if_true rfl rfl ?_
                refine J_seq ?_
                refine J_region ?_
                refine JL_q (wants_none rfl) rfl (ex_assign rfl) ?_
                refine JL_nil ?_
                refine N_then ?_
                refine J_ret ?_
                refine N_mid_ret ?_
                refine N_then_ret ?_
                exact N_ret1 rfl (rv_tmp rfl) (fun w hh => ⟨(), rfl, hh.sel [] rfl⟩)
              · refine JL_q (wants_some rfl rfl rfl h41) rfl (ex_move rfl) ?_
                refine JL_q (wants_some rfl rfl rfl h41) rfl (ex_move rfl) ?_
                refine JL_q (wants_some rfl rfl rfl h41) rfl (ex_neq rfl rfl) ?_
                refine JL_q (wants_none rfl) rfl (ex_pick_false rfl h41 rfl) ?_
                refine JL_nil ?_
                refine N_then ?_
                refine J_if rfl (fun h42 => ?_) (fun h42 => ?_)
                · refine J_seq ?_
                  refine J_region ?_
                  refine JL_q (wants_none rfl) rfl (ex_assign rfl) ?_
                  refine JL_nil ?_
                  refine N_then ?_
                  refine J_ret ?_
                  refine N_mid_ret ?_
                  refine N_then_ret ?_
                  exact N_ret1 rfl (rv_tmp rfl) (fun w hh => ⟨(), rfl, hh.sel [] rfl⟩)
                · refine J_skip ?_
                  exact N_meet' () ⟨rfl, rfl, rfl, rfl, rfl, rfl, trivial⟩ [2, 4, 5, 6, 7] rfl rfl
        · refine N_then ?_
          refine J_seq ?_
          refine J_region ?_
          refine JL_q (wants_none rfl) rfl (ex_assign rfl) ?_
          refine JL_nil ?_
          refine N_then ?_
          refine J_seq ?_
          refine J_region ?_
          refine JL_q (wants_none rfl) rfl (ex_move rfl) ?_
          refine JL_q (wants_none rfl) rfl (ex_move rfl) ?_
          refine JL_bnd fun r43 hr44 => ?_
          refine JL_ctx (fun w hh => hh.tokf 3 rfl rfl) ?_
          refine JL_mark 0 [2, 3, 5] mk_laws_markInt64S (wants_none rfl) rfl Try.call12 rfl rfl rfl rfl ((SH.start hA).start_rd rfl hp0) rfl hr44 ?_
          refine JL_q (wants_none rfl) rfl (ex_assign rfl) ?_
          refine JL_nil ?_
          refine N_then ?_
          refine J_seq ?_
          refine J_region ?_
          refine JL_q (wants_none rfl) rfl (ex_move rfl) ?_
          refine JL_q (wants_none rfl) rfl (ex_move rfl) ?_
          refine JL_bnd fun r45 hr46 => ?_
          refine JL_ctx (fun w hh => hh.tokf 5 rfl rfl) ?_
          refine JL_mark 0 [2, 4, 5] mk_laws_markInt64S (wants_none rfl) rfl Try.call12 rfl rfl rfl rfl ((SH.start hA).start_rd rfl hp0) rfl hr46 ?_
          refine JL_ctx (fun w hh => hh.tkn_rd 3 rfl) ?_
          refine JL_q (wants_none rfl) rfl (ex_assign rfl) ?_
          refine JL_nil ?_
          refine N_then ?_
          refine J_seq ?_
          refine J_region ?_
          refine JL_q (wants_none rfl) rfl (ex_assign rfl) ?_
          refine JL_nil ?_
          refine N_then ?_
          refine J_seq ?_
          refine J_region ?_
          refine JL_q (wants_none rfl) rfl (ex_move rfl) ?_
          refine JL_q (wants_none rfl) rfl (ex_move rfl) ?_
          refine JL_bnd fun r47 hr48 => ?_
          refine JL_call (wants_none rfl) rfl Try.call13 rfl (Ca_of0 fun w hh => c_laws_heldInt64S _ w (fun _ hk => hk.elim) _ _ (hh.rd0 0 rfl) _ _ hr48) (fun _ => ?_)
          refine JL_q (wants_none rfl) rfl (ex_assign rfl) ?_
          refine JL_nil ?_
          refine N_then ?_
          refine J_seq ?_
          refine J_seq ?_
          refine J_region ?_
          refine JL_q (wants_none rfl) rfl (ex_move rfl) ?_
          refine JL_q (wants_none rfl) rfl (ex_lss rfl rfl) ?_
          refine JL_nil ?_
          refine N_then ?_
          refine J_if rfl (fun h49 => ?_) (fun h49 => ?_)
          · refine J_seq ?_
            refine J_region ?_
            refine JL_q (wants_none rfl) rfl (ex_assign rfl) ?_
            refine JL_nil ?_
            refine N_then ?_
            refine J_ret ?_
            refine N_then_ret ?_
            exact N_ret1 rfl (rv_tmp rfl) (fun w hh => ⟨(), rfl, hh.sel [] rfl⟩)
          · refine J_skip ?_
            refine N_then ?_
            refine J_seq ?_
            refine J_region ?_
            refine JL_q (wants_none rfl) rfl (ex_move rfl) ?_
            refine JL_q (wants_none rfl) rfl (ex_move rfl) ?_
            refine JL_bnd fun r50 hr51 => ?_
            refine JL_call (wants_none rfl) rfl Try.call13 rfl (Ca_of0 fun w hh => c_laws_heldInt64S _ w (fun _ hk => hk.elim) _ _ (hh.rd0 1 rfl) _ _ hr51) (fun _ => ?_)
            refine JL_q (wants_none rfl) rfl (ex_assign rfl) ?_
            refine JL_nil ?_
            refine N_then ?_
            refine J_seq ?_
            refine J_seq ?_
            refine J_region ?_
            refine JL_q (wants_none rfl) rfl (ex_move rfl) ?_
            refine JL_q (wants_none rfl) rfl (ex_lss rfl rfl) ?_
            refine JL_nil ?_
            refine N_then ?_
            refine J_if rfl (fun h52 => ?_) (fun h52 => ?_)
            · refine J_seq ?_
              refine J_region ?_
              refine JL_q (wants_none rfl) rfl (ex_assign rfl) ?_
              refine JL_nil ?_
              refine N_then ?_
              refine J_ret ?_
              refine N_then_ret ?_
              exact N_ret1 rfl (rv_tmp rfl) (fun w hh => ⟨(), rfl, hh.sel [] rfl⟩)
            · refine J_skip ?_
              refine N_then ?_
              refine J_seq ?_
              refine J_seq ?_
              refine J_region ?_
              refine JL_q (wants_none rfl) rfl (ex_move rfl) ?_
              refine JL_q (wants_none rfl) rfl (ex_move rfl) ?_
              refine JL_q (wants_none rfl) rfl (ex_neq rfl rfl) ?_
              refine JL_nil ?_
              refine N_then ?_
              refine J_if rfl (fun h53 => ?_) (fun h53 => ?_)
              · refine J_seq ?_
                refine J_region ?_
                refine JL_q (wants_none rfl) rfl (ex_assign rfl) ?_
                refine JL_nil ?_
                refine N_then ?_
                refine J_ret ?_
                refine N_then_ret ?_
                exact N_ret1 rfl (rv_tmp rfl) (fun w hh => ⟨(), rfl, hh.sel [] rfl⟩)
              · refine J_skip ?_
                refine N_then ?_
                refine J_seq ?_
                refine J_region ?_
                refine JL_q (wants_none rfl) rfl (ex_move rfl) ?_
                refine JL_bnd fun r54 hr55 => ?_
                refine JL_call (wants_none rfl) rfl Try.call7 rfl (Ca_self (fun _ => rfl) fun w hh => c_laws_toInt64SS _ w (fun _ hk => hk.elim) _ _ (hh.rd0 3 rfl) _ hr55) (fun x56 => ?_)
                obtain ⟨x56_0, x56_1⟩ := x56
                refine JL_bnd fun r57 hr58 => ?_
                refine JL_call (wants_none rfl) rfl Try.call8 rfl (Ca_self (fun _ => rfl) fun w hh => c_impl_WordsOfSquare _ w (fun _ hk => hk.elim) _ _ (hh.od0 0 rfl) _ hr58) (fun x59 => ?_)
                obtain ⟨x59_0, x59_1⟩ := x59
                refine JL_q (wants_none rfl) rfl (ex_move rfl) ?_
                refine JL_q (wants_none rfl) rfl (ex_extract rfl rfl) ?_
                refine JL_q (wants_none rfl) rfl (ex_extract rfl rfl) ?_
                refine JL_q (wants_none rfl) rfl (ex_extract rfl rfl) ?_
                refine JL_q (wants_none rfl) rfl (ex_assign rfl) ?_
                refine JL_q (wants_none rfl) rfl (ex_assign rfl) ?_
                refine JL_q (wants_none rfl) rfl (ex_assign rfl) ?_
                refine JL_nil ?_
                refine N_then ?_
                refine J_seq ?_
                refine J_cut' (S' := Unit) (G' := Unit) (fun _ _ => [(8, x15_0), (9, x15_1), (12, .int .i64 r45.1)]) (fun _ _ => [.rd x15_0 r43.2, .tkn x15_0 r43.2 ((x15_0 : Value).ownBlock.toList ++ []), .rd x15_1 r45.2, .tkn x15_1 r45.2 ((x15_1 : Value).ownBlock.toList ++ [])]) ?_ (fun s60 g61 => ?_)
                · refine J_seq ?_
                  refine J_region ?_
                  refine JL_q (wants_none rfl) rfl (ex_move rfl) ?_
                  refine JL_q (wants_none rfl) rfl (ex_move rfl) ?_
                  refine JL_bnd fun r62 hr63 => ?_
                  refine JL_call (wants_none rfl) rfl Try.call9 rfl (Ca_of0 fun w hh => c_laws_eqInt64S _ w (fun _ hk => hk.elim) _ _ (hh.ow0 0 rfl) _ _ (hh.ow0 8 rfl) _ hr63) (fun _ => ?_)
                  refine JL_q (wants_none rfl) rfl (ex_not rfl) ?_
                  refine JL_q (wants_none rfl) rfl (ex_move rfl) ?_
                  refine JL_cond (fun h64 => ?_) (fun h64 => ?_)
                  · refine JL_passed rfl rfl rfl h64 ?_
                    refine JL_passed rfl rfl rfl h64 ?_
                    refine JL_passed rfl rfl rfl h64 ?_
                    refine JL_passed rfl rfl rfl h64 ?_
                    refine JL_q (wants_none rfl) rfl (ex_pick_true rfl h64 rfl) ?_
                    refine JL_q (wants_none rfl) rfl (ex_move rfl) ?_
                    refine JL_passed rfl rfl rfl rfl ?_
                    refine JL_passed rfl rfl rfl rfl ?_
                    refine JL_passed rfl rfl rfl rfl ?_
                    refine JL_q (wants_none rfl) rfl (ex_pick_true rfl rfl rfl) ?_
                    refine JL_nil ?_
                    refine N_then ?_
                    refine J_if_true rfl rfl ?_
                    refine J_seq ?_
                    refine J_region ?_
                    refine JL_q (wants_none rfl) rfl (ex_assign rfl) ?_
                    refine JL_nil ?_
                    refine N_then ?_
                    refine J_ret ?_
                    refine N_mid_ret ?_
                    refine N_then_ret ?_
                    exact N_ret1 rfl (rv_tmp rfl) (fun w hh => ⟨(), rfl, hh.sel [] rfl⟩)
                  · refine JL_q (wants_some rfl rfl rfl h64) rfl (ex_move rfl) ?_
                    refine JL_q (wants_some rfl rfl rfl h64) rfl (ex_move rfl) ?_
                    refine JL_bnd fun r65 hr66 => ?_
                    refine JL_call (wants_some rfl rfl rfl h64) rfl Try.call9 rfl (Ca_of0 fun w hh => c_laws_eqInt64S _ w (fun _ hk => hk.elim) _ _ (hh.ow0 1 rfl) _ _ (hh.ow0 9 rfl) _ hr66) (fun _ => ?_)
                    refine JL_q (wants_some rfl rfl rfl h64) rfl (ex_not rfl) ?_
                    refine JL_q (wants_none rfl) rfl (ex_pick_false rfl h64 rfl) ?_
                    refine JL_q (wants_none rfl) rfl (ex_move rfl) ?_
                    refine JL_cond (fun h67 => ?_) (fun h67 => ?_)
                    · refine JL_passed rfl rfl rfl h67 ?_
                      refine JL_passed rfl rfl rfl h67 ?_
                      refine JL_passed rfl rfl rfl h67 ?_
                      refine JL_q (wants_none rfl) rfl (ex_pick_true rfl h67 rfl) ?_
                      refine JL_nil ?_
                      refine N_then ?_
                      refine J_if_true rfl rfl ?_
                      refine J_seq ?_
                      refine J_region ?_
                      refine JL_q (wants_none rfl) rfl (ex_assign rfl) ?_
                      refine JL_nil ?_
                      refine N_then ?_
                      refine J_ret ?_
                      refine N_mid_ret ?_
                      refine N_then_ret ?_
                      exact N_ret1 rfl (rv_tmp rfl) (fun w hh => ⟨(), rfl, hh.sel [] rfl⟩)
                    · refine JL_q (wants_some rfl rfl rfl h67) rfl (ex_move rfl) ?_
                      refine JL_q (wants_some rfl rfl rfl h67) rfl (ex_move rfl) ?_
                      refine JL_q (wants_some rfl rfl rfl h67) rfl (ex_neq rfl rfl) ?_
                      refine JL_q (wants_none rfl) rfl (ex_pick_false rfl h67 rfl) ?_
                      refine JL_nil ?_
                      refine N_then ?_
                      refine J_if rfl (fun h68 => ?_) (fun h68 => ?_)
                      · refine J_seq ?_
                        refine J_region ?_
                        refine JL_q (wants_none rfl) rfl (ex_assign rfl) ?_
                        refine JL_nil ?_
                        refine N_then ?_
                        refine J_ret ?_
                        refine N_mid_ret ?_
                        refine N_then_ret ?_
                        exact N_ret1 rfl (rv_tmp rfl) (fun w hh => ⟨(), rfl, hh.sel [] rfl⟩)
                      · refine J_skip ?_
                        exact N_meet' () ⟨rfl, rfl, rfl, trivial⟩ [3, 7, 4, 5] rfl rfl
                · refine N_then ?_
                  refine J_seq ?_
                  refine J_region ?_
                  refine JL_q (wants_none rfl) rfl (ex_assign rfl) ?_
                  refine JL_nil ?_
                  refine N_then ?_
                  refine J_seq ?_
                  refine J_region ?_
                  refine JL_q (wants_none rfl) rfl (ex_move rfl) ?_
                  refine JL_q (wants_none rfl) rfl (ex_move rfl) ?_
                  refine JL_bnd fun r69 hr70 => ?_
                  refine JL_call (wants_none rfl) rfl Try.call13 rfl (Ca_of0 fun w hh => c_laws_heldInt64S _ w (fun _ hk => hk.elim) _ _ (hh.rd0 0 rfl) _ _ hr70) (fun _ => ?_)
                  refine JL_q (wants_none rfl) rfl (ex_assign rfl) ?_
                  refine JL_nil ?_
                  refine N_then ?_
                  refine J_seq ?_
                  refine J_seq ?_
                  refine J_region ?_
                  refine JL_q (wants_none rfl) rfl (ex_move rfl) ?_
                  refine JL_q (wants_none rfl) rfl (ex_lss rfl rfl) ?_
                  refine JL_nil ?_
                  refine N_then ?_
                  refine J_if rfl (fun h71 => ?_) (fun h71 => ?_)
                  · refine J_seq ?_
                    refine J_region ?_
                    refine JL_q (wants_none rfl) rfl (ex_assign rfl) ?_
                    refine JL_nil ?_
                    refine N_then ?_
                    refine J_ret ?_
                    refine N_then_ret ?_
                    exact N_ret1 rfl (rv_tmp rfl) (fun w hh => ⟨(), rfl, hh.sel [] rfl⟩)
                  · refine J_skip ?_
                    refine N_then ?_
                    refine J_seq ?_
                    refine J_region ?_
                    refine JL_q (wants_none rfl) rfl (ex_move rfl) ?_
                    refine JL_q (wants_none rfl) rfl (ex_move rfl) ?_
                    refine JL_bnd fun r72 hr73 => ?_
                    refine JL_call (wants_none rfl) rfl Try.call13 rfl (Ca_of0 fun w hh => c_laws_heldInt64S _ w (fun _ hk => hk.elim) _ _ (hh.rd0 2 rfl) _ _ hr73) (fun _ => ?_)
                    refine JL_q (wants_none rfl) rfl (ex_assign rfl) ?_
                    refine JL_nil ?_
                    refine N_then ?_
                    refine J_seq ?_
                    refine J_seq ?_
                    refine J_region ?_
                    refine JL_q (wants_none rfl) rfl (ex_move rfl) ?_
                    refine JL_q (wants_none rfl) rfl (ex_lss rfl rfl) ?_
                    refine JL_nil ?_
                    refine N_then ?_
                    refine J_if rfl (fun h74 => ?_) (fun h74 => ?_)
                    · refine J_seq ?_
                      refine J_region ?_
                      refine JL_q (wants_none rfl) rfl (ex_assign rfl) ?_
                      refine JL_nil ?_
                      refine N_then ?_
                      refine J_ret ?_
                      refine N_then_ret ?_
                      exact N_ret1 rfl (rv_tmp rfl) (fun w hh => ⟨(), rfl, hh.sel [] rfl⟩)
                    · refine J_skip ?_
                      refine N_then ?_
                      refine J_seq ?_
                      refine J_seq ?_
                      refine J_region ?_
                      refine JL_q (wants_none rfl) rfl (ex_move rfl) ?_
                      refine JL_q (wants_none rfl) rfl (ex_move rfl) ?_
                      refine JL_q (wants_none rfl) rfl (ex_neq rfl rfl) ?_
                      refine JL_nil ?_
                      refine N_then ?_
                      refine J_if rfl (fun h75 => ?_) (fun h75 => ?_)
                      · refine J_seq ?_
                        refine J_region ?_
                        refine JL_q (wants_none rfl) rfl (ex_assign rfl) ?_
                        refine JL_nil ?_
                        refine N_then ?_
                        refine J_ret ?_
                        refine N_then_ret ?_
                        exact N_ret1 rfl (rv_tmp rfl) (fun w hh => ⟨(), rfl, hh.sel [] rfl⟩)
                      · refine J_skip ?_
                        refine N_then ?_
                        refine J_seq ?_
                        refine J_region ?_
                        refine JL_q (wants_none rfl) rfl (ex_assign rfl) ?_
                        refine JL_nil ?_
                        refine N_then ?_
                        refine J_ret ?_
                        exact N_ret1 rfl (rv_tmp rfl) (fun w hh => ⟨(), rfl, hh.sel [] rfl⟩)

end Go.Proofs.Ytlbbchonoomafaa
