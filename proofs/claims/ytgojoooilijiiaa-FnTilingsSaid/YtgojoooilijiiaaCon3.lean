/-
  Each function of the program computes what its plain function says: printed by program. No condition.
-/
import Derived.Test.YtgojoooilijiiaaFn
import Derived.Test.YtgojoooilijiiaaInf
import Derived.Test.YtgojoooilijiiaaCon1
import Derived.Test.YtgojoooilijiiaaCon2
namespace Go.Proofs.Ytgojoooilijiiaa
open Go Go.Tc Go.Fn
set_option linter.unusedVariables false

set_option maxHeartbeats 40000000 in
theorem c_impl_ValidTiles (A : Nat → Prop) (w : World) (hA : ∀ k, A k → k < w.heap.size) (v0_ : Value) (p0 : (List GTile)) (hp0 : Rd A w v0_ p0) (r : Bool) (hr : F_impl_ValidTiles p0 = some r) :
    Con Try.prog 27 [v0_] A w (fun x_ : Unit => .bool r) (fun x_ => []) := by
  refine Con_of (v := fun (r : Bool) (x_ : Unit) => .bool r) (fs := fun r x_ => []) Try.func27 rfl Try.ntmps27 rfl ((SH.start hA).start_rd rfl hp0) rfl ?_ hr
  unfold F_impl_ValidTiles
  refine J_seq ?_
  refine J_region ?_
  refine JL_q (wants_none rfl) rfl (ex_assign rfl) ?_
  refine JL_nil ?_
  refine N_then ?_
  refine J_seq ?_
  refine J_seq ?_
  refine J_region ?_
  refine JL_q (wants_none rfl) rfl (ex_move rfl) ?_
  refine JL_bnd fun r1 hr2 => ?_
  refine JL_call (wants_none rfl) rfl Try.call78 rfl (Ca_of0 fun w hh => c_impl_size_impl_Tile _ w (fun _ hk => hk.elim) _ _ (hh.rd0 0 rfl) _ hr2) (fun _ => ?_)
  refine JL_bnd fun r3 hr4 => ?_
  refine JL_call (wants_none rfl) rfl Try.call44 rfl (Ca_of0 fun w hh => c_impl_within _ w (fun _ hk => hk.elim) _ _ _ _ hr4) (fun _ => ?_)
  refine JL_q (wants_none rfl) rfl (ex_not rfl) ?_
  refine JL_nil ?_
  refine N_then ?_
  refine J_if rfl (fun h5 => ?_) (fun h5 => ?_)
  · refine J_seq ?_
    refine J_region ?_
    refine JL_q (wants_none rfl) rfl (ex_assign rfl) ?_
    refine JL_nil ?_
    refine N_then ?_
    refine J_ret ?_
    refine N_then_ret ?_
    exact N_ret1 rfl (rv_tmp rfl) (fun w hh => ⟨(), rfl, hh.sel [] rfl⟩)
  · refine J_skip ?_
    refine N_then ?_
    refine J_seq ?_
    refine J_seq ?_
    refine J_region ?_
    refine JL_q (wants_none rfl) rfl (ex_move rfl) ?_
    refine JL_q (wants_none rfl) rfl (ex_len_rd 0 Try.underlying57 rfl rfl) ?_
    refine JL_q (wants_none rfl) rfl (ex_move rfl) ?_
    refine JL_nil ?_
    refine N_then ?_
    refine J_loop' (S := Int) (G := Unit) (F_impl_ValidTiles_L1 p0) (fun s6 _ => [(0, v0_), (9, v0_), (10, .int .i64 (p0.length : Int)), (11, .int .i64 s6)]) (fun s6 _ => [.rd v0_ p0]) 0 () ⟨rfl, rfl, rfl, rfl, trivial⟩ [0] rfl rfl (fun s6 g7 => ?_) (fun s6 g7 => ?_)
    · unfold F_impl_ValidTiles_L1
      refine J_seq ?_
      refine J_region ?_
      refine JL_q (wants_none rfl) rfl (ex_lss rfl rfl) ?_
      refine JL_nil ?_
      refine N_then ?_
      refine J_seq ?_
      refine J_if rfl (fun h8 => ?_) (fun h8 => ?_)
      · refine J_skip ?_
        refine N_then ?_
        refine J_seq ?_
        refine J_block ?_
        refine J_seq ?_
        refine J_region ?_
        refine JL_q (wants_none rfl) rfl (ex_move rfl) ?_
        refine JL_bnd fun y9 hy10 => ?_
        refine JL_st (wants_none rfl) rfl (st_index 0 Try.underlying57 ti_108 rfl rfl rfl hy10) (fun q11 => ?_)
        refine JL_st (wants_none rfl) rfl (st_load_pt_o 0 (GTile.opens _) ti_108 rfl rfl) (fun _ => ?_)
        refine JL_st (wants_none rfl) rfl (st_alloc zi_108 rfl) (fun b13 => ?_)
        refine JL_q (wants_none rfl) rfl (ex_assign rfl) ?_
        refine JL_sk (wants_none rfl) (sk_store_bx' 0 ti_108 rfl rfl (fun w hh => (cv_aggs ⟨cv_int, cv_int, cv_int, cv_int, trivial⟩)) rfl rfl rfl rfl) ?_
        refine JL_nil ?_
        refine N_then ?_
        refine J_seq ?_
        refine J_region ?_
        refine JL_q (wants_none rfl) rfl (ex_fieldAddr fi_108_0 rfl rfl) ?_
        refine JL_q (wants_none rfl) rfl (ex_load_bx 0 ti_2 rfl rfl rfl) ?_
        refine JL_q (wants_none rfl) rfl (ex_fieldAddr fi_108_1 rfl rfl) ?_
        refine JL_q (wants_none rfl) rfl (ex_load_bx 0 ti_2 rfl rfl rfl) ?_
        refine JL_q (wants_none rfl) rfl (ex_fieldAddr fi_108_2 rfl rfl) ?_
        refine JL_q (wants_none rfl) rfl (ex_load_bx 0 ti_2 rfl rfl rfl) ?_
        refine JL_q (wants_none rfl) rfl (ex_fieldAddr fi_108_3 rfl rfl) ?_
        refine JL_q (wants_none rfl) rfl (ex_load_bx 0 ti_2 rfl rfl rfl) ?_
        refine JL_st (wants_none rfl) rfl (st_buildSlice (vs := [.int .i64 y9.Left, .int .i64 y9.Bottom, .int .i64 y9.Right, .int .i64 y9.Top]) ([y9.Left, y9.Bottom, y9.Right, y9.Top] : List Int) Try.underlying27 ti_2 zi_2 rfl rfl rfl (fun w hh => ⟨(Rd.mk_int _ _ _), (Rd.mk_int _ _ _), (Rd.mk_int _ _ _), (Rd.mk_int _ _ _), trivial⟩)) (fun b14 => ?_)
        refine JL_bnd fun r15 hr16 => ?_
        refine JL_call (wants_none rfl) rfl Try.call79 rfl (Ca_of0 fun w hh => c_impl_colorsOk _ w (fun _ hk => hk.elim) _ _ (hh.ow0 0 rfl) _ hr16) (fun _ => ?_)
        refine JL_q (wants_none rfl) rfl (ex_not rfl) ?_
        refine JL_q (wants_none rfl) rfl (ex_move rfl) ?_
        refine JL_cond (fun h17 => ?_) (fun h17 => ?_)
        · refine JL_passed rfl rfl rfl h17 ?_
          refine JL_passed rfl rfl rfl h17 ?_
          refine JL_passed rfl rfl rfl h17 ?_
          refine JL_passed rfl rfl rfl h17 ?_
          refine JL_passed rfl rfl rfl h17 ?_
          refine JL_q (wants_none rfl) rfl (ex_pick_true rfl h17 rfl) ?_
          refine JL_nil ?_
          refine N_then ?_
          refine J_if_true rfl rfl ?_
          refine J_seq ?_
          refine J_region ?_
          refine JL_q (wants_none rfl) rfl (ex_assign rfl) ?_
          refine JL_nil ?_
          refine N_then ?_
          refine J_ret ?_
          refine N_block_ret ?_
          refine N_then_ret ?_
          refine N_round_ret ?_
          refine N_then_ret ?_
          exact N_ret1 rfl (rv_tmp rfl) (fun w hh => ⟨(), rfl, hh.sel [] rfl⟩)
        · refine JL_q (wants_some rfl rfl rfl h17) rfl (ex_move rfl) ?_
          refine JL_q (wants_some rfl rfl rfl h17) rfl (ex_load_bx_agg 1 ti_108 rfl rfl rfl rfl) ?_
          refine JL_bnd fun r18 hr19 => ?_
          refine JL_call (wants_some rfl rfl rfl h17) rfl Try.call80 rfl (Ca_of0 fun w hh => c_slices_Index_Simpl_Tile_impl_Tile _ w (fun _ hk => hk.elim) _ _ (hh.rd0 3 rfl) _ _ (GTile.rdmk (Rd.mk_int _ _ _) (Rd.mk_int _ _ _) (Rd.mk_int _ _ _) (Rd.mk_int _ _ _)) _ hr19) (fun _ => ?_)
          refine JL_q (wants_some rfl rfl rfl h17) rfl (ex_move rfl) ?_
          refine JL_q (wants_some rfl rfl rfl h17) rfl (ex_neq rfl rfl) ?_
          refine JL_q (wants_none rfl) rfl (ex_pick_false rfl h17 rfl) ?_
          refine JL_nil ?_
          refine N_then ?_
          refine J_if rfl (fun h20 => ?_) (fun h20 => ?_)
          · refine J_seq ?_
            refine J_region ?_
            refine JL_q (wants_none rfl) rfl (ex_assign rfl) ?_
            refine JL_nil ?_
            refine N_then ?_
            refine J_ret ?_
            refine N_block_ret ?_
            refine N_then_ret ?_
            refine N_round_ret ?_
            refine N_then_ret ?_
            exact N_ret1 rfl (rv_tmp rfl) (fun w hh => ⟨(), rfl, hh.sel [] rfl⟩)
          · refine J_skip ?_
            refine N_block ?_
            refine N_then ?_
            refine J_region ?_
            refine JL_q (wants_none rfl) rfl (ex_add rfl rfl) ?_
            refine JL_q (wants_none rfl) rfl (ex_move rfl) ?_
            refine JL_nil ?_
            exact N_next' () ⟨rfl, rfl, rfl, rfl, trivial⟩ [3] rfl rfl
      · refine J_exit ?_
        refine N_then_exit ?_
        exact N_break' () ⟨rfl, rfl, rfl, rfl, trivial⟩ [0] rfl rfl
    · refine N_then ?_
      refine J_seq ?_
      refine J_region ?_
      refine JL_q (wants_none rfl) rfl (ex_assign rfl) ?_
      refine JL_nil ?_
      refine N_then ?_
      refine J_ret ?_
      exact N_ret1 rfl (rv_tmp rfl) (fun w hh => ⟨(), rfl, hh.sel [] rfl⟩)

set_option maxHeartbeats 40000000 in
theorem c_impl_isFrame (A : Nat → Prop) (w : World) (hA : ∀ k, A k → k < w.heap.size) (v0_ : Value) (p0 : (List Int)) (hp0 : Rd A w v0_ p0) (r : Bool) (hr : F_impl_isFrame p0 = some r) :
    Con Try.prog 86 [v0_] A w (fun x_ : Unit => .bool r) (fun x_ => []) := by
  refine Con_of (v := fun (r : Bool) (x_ : Unit) => .bool r) (fs := fun r x_ => []) Try.func86 rfl Try.ntmps86 rfl ((SH.start hA).start_rd rfl hp0) rfl ?_ hr
  unfold F_impl_isFrame
  refine J_seq ?_
  refine J_region ?_
  refine JL_q (wants_none rfl) rfl (ex_assign rfl) ?_
  refine JL_nil ?_
  refine N_then ?_
  refine J_seq ?_
  refine J_region ?_
  refine JL_q (wants_none rfl) rfl (ex_move rfl) ?_
  refine JL_bnd fun r1 hr2 => ?_
  refine JL_call (wants_none rfl) rfl Try.call87 rfl (Ca_of0 fun w hh => c_impl_size_int64 _ w (fun _ hk => hk.elim) _ _ (hh.rd0 0 rfl) _ hr2) (fun _ => ?_)
  refine JL_bnd fun r3 hr4 => ?_
  refine JL_call (wants_none rfl) rfl Try.call44 rfl (Ca_of0 fun w hh => c_impl_within _ w (fun _ hk => hk.elim) _ _ _ _ hr4) (fun _ => ?_)
  refine JL_q (wants_none rfl) rfl (ex_move rfl) ?_
  refine JL_cond (fun h5 => ?_) (fun h5 => ?_)
  · refine JL_q (wants_some rfl rfl rfl h5) rfl (ex_move rfl) ?_
    refine JL_bnd fun r6 hr7 => ?_
    refine JL_call (wants_some rfl rfl rfl h5) rfl Try.call79 rfl (Ca_of0 fun w hh => c_impl_colorsOk _ w (fun _ hk => hk.elim) _ _ (hh.rd0 0 rfl) _ hr7) (fun _ => ?_)
    refine JL_q (wants_none rfl) rfl (ex_pick_true rfl h5 rfl) ?_
    refine JL_q (wants_none rfl) rfl (ex_assign rfl) ?_
    refine JL_nil ?_
    refine N_then ?_
    refine J_ret ?_
    exact N_ret1 rfl (rv_tmp rfl) (fun w hh => ⟨(), rfl, hh.sel [] rfl⟩)
  · refine JL_passed rfl rfl rfl h5 ?_
    refine JL_passed rfl rfl rfl h5 ?_
    refine JL_q (wants_none rfl) rfl (ex_pick_false rfl h5 rfl) ?_
    refine JL_q (wants_none rfl) rfl (ex_assign rfl) ?_
    refine JL_nil ?_
    refine N_then ?_
    refine J_ret ?_
    exact N_ret1 rfl (rv_tmp rfl) (fun w hh => ⟨(), rfl, hh.sel [] rfl⟩)

set_option maxHeartbeats 40000000 in
theorem c_impl_budgetOk (A : Nat → Prop) (w : World) (hA : ∀ k, A k → k < w.heap.size) (p0 : Int) (r : Bool) (hr : F_impl_budgetOk p0 = some r) :
    Con Try.prog 125 [.int .i64 p0] A w (fun x_ : Unit => .bool r) (fun x_ => []) := by
  refine Con_of (v := fun (r : Bool) (x_ : Unit) => .bool r) (fs := fun r x_ => []) Try.func125 rfl Try.ntmps125 rfl (SH.start hA) rfl ?_ hr
  unfold F_impl_budgetOk
  refine J_seq ?_
  refine J_region ?_
  refine JL_q (wants_none rfl) rfl (ex_assign rfl) ?_
  refine JL_nil ?_
  refine N_then ?_
  refine J_seq ?_
  refine J_region ?_
  refine JL_q (wants_none rfl) rfl (ex_move rfl) ?_
  refine JL_bnd fun r1 hr2 => ?_
  refine JL_call (wants_none rfl) rfl Try.call44 rfl (Ca_of0 fun w hh => c_impl_within _ w (fun _ hk => hk.elim) _ _ _ _ hr2) (fun _ => ?_)
  refine JL_q (wants_none rfl) rfl (ex_assign rfl) ?_
  refine JL_nil ?_
  refine N_then ?_
  refine J_ret ?_
  exact N_ret1 rfl (rv_tmp rfl) (fun w hh => ⟨(), rfl, hh.sel [] rfl⟩)

set_option maxHeartbeats 40000000 in
theorem c_impl_fitsAt (A : Nat → Prop) (w : World) (hA : ∀ k, A k → k < w.heap.size) (v0_ : Value) (p0 : GTile) (hp0 : Rd A w v0_ p0) (p1 : Int) (p2 : Int) (p3 : Bool) (r : Bool) (hr : F_impl_fitsAt p0 p1 p2 p3 = some r) :
    Con Try.prog 126 [v0_, .int .i64 p1, .int .i64 p2, .bool p3] A w (fun x_ : Unit => .bool r) (fun x_ => []) := by
  obtain rfl := GTile.open hp0
  refine Con_of (v := fun (r : Bool) (x_ : Unit) => .bool r) (fs := fun r x_ => []) Try.func126 rfl Try.ntmps126 rfl (SH.start hA) rfl ?_ hr
  unfold F_impl_fitsAt
  refine J_seq ?_
  refine J_region ?_
  refine JL_st (wants_none rfl) rfl (st_box' rfl (fun w hh => (cv_aggs ⟨cv_int, cv_int, cv_int, cv_int, trivial⟩))) (fun b1 => ?_)
  refine JL_q (wants_none rfl) rfl (ex_assign rfl) ?_
  refine JL_nil ?_
  refine N_then ?_
  refine J_seq ?_
  refine J_region ?_
  refine JL_q (wants_none rfl) rfl (ex_fieldAddr fi_108_0 rfl rfl) ?_
  refine JL_q (wants_none rfl) rfl (ex_load_bx 0 ti_2 rfl rfl rfl) ?_
  refine JL_q (wants_none rfl) rfl (ex_move rfl) ?_
  refine JL_q (wants_none rfl) rfl (ex_eql rfl rfl) ?_
  refine JL_q (wants_none rfl) rfl (ex_move rfl) ?_
  refine JL_cond (fun h2 => ?_) (fun h2 => ?_)
  · refine JL_q (wants_some rfl rfl rfl h2) rfl (ex_fieldAddr fi_108_1 rfl rfl) ?_
    refine JL_q (wants_some rfl rfl rfl h2) rfl (ex_load_bx 0 ti_2 rfl rfl rfl) ?_
    refine JL_q (wants_some rfl rfl rfl h2) rfl (ex_move rfl) ?_
    refine JL_q (wants_some rfl rfl rfl h2) rfl (ex_eql rfl rfl) ?_
    refine JL_q (wants_none rfl) rfl (ex_pick_true rfl h2 rfl) ?_
    refine JL_q (wants_none rfl) rfl (ex_move rfl) ?_
    refine JL_cond (fun h3 => ?_) (fun h3 => ?_)
    · refine JL_q (wants_some rfl rfl rfl h3) rfl (ex_move rfl) ?_
      refine JL_q (wants_some rfl rfl rfl h3) rfl (ex_not rfl) ?_
      refine JL_q (wants_some rfl rfl rfl h3) rfl (ex_move rfl) ?_
      refine JL_cond (fun h4 => ?_) (fun h4 => ?_)
      · refine JL_passed rfl rfl rfl h4 ?_
        refine JL_passed rfl rfl rfl h4 ?_
        refine JL_passed rfl rfl rfl h4 ?_
        refine JL_q (wants_some rfl rfl rfl h3) rfl (ex_pick_true rfl h4 rfl) ?_
        refine JL_q (wants_none rfl) rfl (ex_pick_true rfl h3 rfl) ?_
        refine JL_q (wants_none rfl) rfl (ex_assign rfl) ?_
        refine JL_nil ?_
        refine N_then ?_
        refine J_ret ?_
        exact N_ret1 rfl (rv_tmp rfl) (fun w hh => ⟨(), rfl, hh.sel [] rfl⟩)
      · refine JL_q (wants_some rfl rfl rfl h4) rfl (ex_fieldAddr fi_108_2 rfl rfl) ?_
        refine JL_q (wants_some rfl rfl rfl h4) rfl (ex_load_bx 0 ti_2 rfl rfl rfl) ?_
        refine JL_q (wants_some rfl rfl rfl h4) rfl (ex_eql rfl rfl) ?_
        refine JL_q (wants_some rfl rfl rfl h3) rfl (ex_pick_false rfl h4 rfl) ?_
        refine JL_q (wants_none rfl) rfl (ex_pick_true rfl h3 rfl) ?_
        refine JL_q (wants_none rfl) rfl (ex_assign rfl) ?_
        refine JL_nil ?_
        refine N_then ?_
        refine J_ret ?_
        exact N_ret1 rfl (rv_tmp rfl) (fun w hh => ⟨(), rfl, hh.sel [] rfl⟩)
    · refine JL_passed rfl rfl rfl h3 ?_
      refine JL_passed rfl rfl rfl h3 ?_
      refine JL_passed rfl rfl rfl h3 ?_
      refine JL_passed_undef rfl rfl rfl ?_
      refine JL_passed_undef rfl rfl rfl ?_
      refine JL_passed_undef rfl rfl rfl ?_
      refine JL_passed rfl rfl rfl h3 ?_
      refine JL_q (wants_none rfl) rfl (ex_pick_false rfl h3 rfl) ?_
      refine JL_q (wants_none rfl) rfl (ex_assign rfl) ?_
      refine JL_nil ?_
      refine N_then ?_
      refine J_ret ?_
      exact N_ret1 rfl (rv_tmp rfl) (fun w hh => ⟨(), rfl, hh.sel [] rfl⟩)
  · refine JL_passed rfl rfl rfl h2 ?_
    refine JL_passed rfl rfl rfl h2 ?_
    refine JL_passed rfl rfl rfl h2 ?_
    refine JL_passed rfl rfl rfl h2 ?_
    refine JL_q (wants_none rfl) rfl (ex_pick_false rfl h2 rfl) ?_
    refine JL_q (wants_none rfl) rfl (ex_move rfl) ?_
    refine JL_passed rfl rfl rfl rfl ?_
    refine JL_passed rfl rfl rfl rfl ?_
    refine JL_passed rfl rfl rfl rfl ?_
    refine JL_passed_undef rfl rfl rfl ?_
    refine JL_passed_undef rfl rfl rfl ?_
    refine JL_passed_undef rfl rfl rfl ?_
    refine JL_passed rfl rfl rfl rfl ?_
    refine JL_q (wants_none rfl) rfl (ex_pick_false rfl rfl rfl) ?_
    refine JL_q (wants_none rfl) rfl (ex_assign rfl) ?_
    refine JL_nil ?_
    refine N_then ?_
    refine J_ret ?_
    exact N_ret1 rfl (rv_tmp rfl) (fun w hh => ⟨(), rfl, hh.sel [] rfl⟩)

set_option maxHeartbeats 40000000 in
theorem c_impl_tiler_fill_impl_CountTilings_1_ind : ∀ (k_ : Nat) (w : World) (b0_ : Nat) (p0 : Gtiler) (v0_0 : Value) (v0_1 : Value) (v0_2 : Value) (b3_ : Nat) (p3 : Int) (B_ : List Nat) (hB_ : Ctx.owns [.bx b0_ 124 [v0_0, v0_1, v0_2, .int .i64 p0.left], .ow 2 v0_2 p0.places, .bx b3_ 2 [.int .i64 p3]] = B_) (hn_ : PHanded w [.bx b0_ 124 [v0_0, v0_1, v0_2, .int .i64 p0.left], .ow 2 v0_2 p0.places, .bx b3_ 2 [.int .i64 p3]]) (hp0_0 : Rd (fun k => k ∈ B_) w v0_0 p0.list) (hp0_1 : Rd (fun k => k ∈ B_) w v0_1 p0.bottom) (p1 : Int) (r : (Bool × Bool) × ((List Int) × Int × Int)) (hr : fixN (fun (rec_ : (Gtiler × Int × Int) → Option ((Bool × Bool) × ((List Int) × Int × Int))) (a_ : Gtiler × Int × Int) => F_impl_tiler_fill_impl_CountTilings_1_step (fun p0 p1 p3 => rec_ (p0, p1, p3)) a_.1 a_.2.1 a_.2.2) k_ (p0, p1, p3) = some r),
    PtrCon Try.prog 76 [.pointer (some ⟨b0_, 0, none⟩), .int .i64 p1, .func (.func 77) #[] #[.pointer (some ⟨b3_, 0, none⟩)]] w B_ (fun x_ : Value => .tuple #[.bool r.1.1, .bool r.1.2]) (fun x_ => [.bx b0_ 124 [v0_0, v0_1, x_, .int .i64 r.2.2.1], .ow 2 x_ r.2.1, .bx b3_ 2 [.int .i64 r.2.2.2]]) := by
  intro k_
  induction k_ with
  | zero => intro w b0_ p0 v0_0 v0_1 v0_2 b3_ p3 B_ hB_ hn_ hp0_0 hp0_1 p1 r hr; cases hr
  | succ k_ ih_ =>
  intro w b0_ p0 v0_0 v0_1 v0_2 b3_ p3 B_ hB_ hn_ hp0_0 hp0_1 p1 r hr
  replace hr : F_impl_tiler_fill_impl_CountTilings_1_step (fun p0 p1 p3 => fixN (fun (rec_ : (Gtiler × Int × Int) → Option ((Bool × Bool) × ((List Int) × Int × Int))) (a_ : Gtiler × Int × Int) => F_impl_tiler_fill_impl_CountTilings_1_step (fun p0 p1 p3 => rec_ (p0, p1, p3)) a_.1 a_.2.1 a_.2.2) k_ (p0, p1, p3)) p0 p1 p3 = some r := hr
  refine PtrCon_of (v := fun (r : (Bool × Bool) × ((List Int) × Int × Int)) (x_ : Value) => .tuple #[.bool r.1.1, .bool r.1.2]) (fs := fun r x_ => [.bx b0_ 124 [v0_0, v0_1, x_, .int .i64 r.2.2.1], .ow 2 x_ r.2.1, .bx b3_ 2 [.int .i64 r.2.2.2]]) Try.func76 rfl Try.ntmps76 rfl (show SH nowhere (bare w) w [.rd v0_1 p0.bottom, .rd v0_0 p0.list, .bx b0_ 124 [v0_0, v0_1, v0_2, .int .i64 p0.left], .ow 2 v0_2 p0.places, .bx b3_ 2 [.int .i64 p3], .tkn (.int .i64 0) (0 : Int) (restL w B_), rest w B_] from (((SH.begin hB_ hn_).cons_apart hB_ hp0_0).cons_apart hB_ hp0_1)) rfl ?_ hr
  unfold F_impl_tiler_fill_impl_CountTilings_1_step
  refine J_seq ?_
  refine J_region ?_
  refine JL_q (wants_none rfl) rfl (ex_assign rfl) ?_
  refine JL_q (wants_none rfl) rfl (ex_assign rfl) ?_
  refine JL_nil ?_
  refine N_then ?_
  refine J_seq ?_
  refine J_seq ?_
  refine J_region ?_
  refine JL_q (wants_none rfl) rfl (ex_move rfl) ?_
  refine JL_q (wants_none rfl) rfl (ex_move rfl) ?_
  refine JL_q (wants_none rfl) rfl (ex_nilCheck rfl) ?_
  refine JL_q (wants_none rfl) rfl (ex_fieldAddr fi_124_2 rfl rfl) ?_
  refine JL_q (wants_none rfl) rfl (ex_load_bx 2 ti_27 rfl rfl rfl) ?_
  refine JL_q (wants_none rfl) rfl (ex_len_ow 3 Try.underlying27 rfl rfl) ?_
  refine JL_q (wants_none rfl) rfl (ex_eql rfl rfl) ?_
  refine JL_nil ?_
  refine N_then ?_
  refine J_if rfl (fun h1 => ?_) (fun h1 => ?_)
  · refine J_seq ?_
    refine J_region ?_
    refine JL_q (wants_none rfl) rfl (ex_move rfl) ?_
    refine JL_inlinev (args := []) (caps := [.pointer (some ⟨b3_, 0, none⟩)]) (wants_none rfl) rfl Try.call77 rfl rfl Try.func77 rfl Try.ntmps77 rfl rfl (fun K_ hK2 => ?_)
    refine J_seq ?_
    refine J_region ?_
    refine JL_q (wants_none rfl) rfl (ex_assign rfl) ?_
    refine JL_nil ?_
    refine N_then ?_
    refine J_seq ?_
    refine J_region ?_
    refine JL_q (wants_none rfl) rfl (ex_load_bx 4 ti_2 rfl rfl rfl) ?_
    refine JL_q (wants_none rfl) rfl (ex_add rfl rfl) ?_
    refine JL_sk (wants_none rfl) (sk_store_bx' 4 ti_2 rfl rfl (fun w hh => cv_int) rfl rfl rfl rfl) ?_
    refine JL_nil ?_
    refine N_then ?_
    refine J_seq ?_
    refine J_region ?_
    refine JL_q (wants_none rfl) rfl (ex_assign rfl) ?_
    refine JL_nil ?_
    refine N_then ?_
    refine J_ret ?_
    refine N_inl1 hK2 rfl (rv_tmp rfl) ?_
    refine JL_q (wants_none rfl) rfl (ex_assign rfl) ?_
    refine JL_q (wants_none rfl) rfl (ex_assign rfl) ?_
    refine JL_nil ?_
    refine N_then ?_
    refine J_ret ?_
    refine N_then_ret ?_
    exact N_ret2 rfl (rv_tmp rfl) (rv_tmp rfl) (fun w hh => ⟨v0_2, rfl, hh.sel [2, 3, 4, 5, 6] rfl⟩)
  · refine J_skip ?_
    refine N_then ?_
    refine J_seq ?_
    refine J_region ?_
    refine JL_q (wants_none rfl) rfl (ex_move rfl) ?_
    refine JL_q (wants_none rfl) rfl (ex_nilCheck rfl) ?_
    refine JL_q (wants_none rfl) rfl (ex_fieldAddr fi_124_1 rfl rfl) ?_
    refine JL_q (wants_none rfl) rfl (ex_load_bx 2 ti_27 rfl rfl rfl) ?_
    refine JL_q (wants_none rfl) rfl (ex_len_rd 0 Try.underlying27 rfl rfl) ?_
    refine JL_q (wants_none rfl) rfl (ex_assign rfl) ?_
    refine JL_nil ?_
    refine N_then ?_
    refine J_seq ?_
    refine J_draw [] (by kernel_rfl) ?_
    refine JP_take (i := 0) [0, 1, 2, 3, 4, 5, 6] [] rfl (by kernel_rfl) (by kernel_rfl) (by kernel_rfl) rfl rfl (wants_none rfl) rfl (ex_move rfl) ?_
    refine JP_take (i := 1) [0, 1, 2, 3, 4, 5, 6] [] rfl (by kernel_rfl) (by kernel_rfl) (by kernel_rfl) rfl rfl (wants_none rfl) rfl (ex_nilCheck rfl) ?_
    refine JP_take (i := 2) [0, 1, 2, 3, 4, 5, 6] [] rfl (by kernel_rfl) (by kernel_rfl) (by kernel_rfl) rfl rfl (wants_none rfl) rfl (ex_fieldAddr fi_124_1 rfl rfl) ?_
    refine JP_take (i := 3) [0, 1, 2, 3, 4, 5, 6] [] rfl (by kernel_rfl) (by kernel_rfl) (by kernel_rfl) rfl rfl (wants_none rfl) rfl (ex_load_bx 2 ti_27 rfl rfl rfl) ?_
    refine JP_take (i := 4) [0, 1, 2, 3, 4, 5, 6] [] rfl (by kernel_rfl) (by kernel_rfl) (by kernel_rfl) rfl rfl (wants_none rfl) rfl (ex_move rfl) ?_
    refine JP_take (i := 5) [0, 1, 2, 3, 4, 5, 6] [] rfl (by kernel_rfl) (by kernel_rfl) (by kernel_rfl) rfl rfl (wants_none rfl) rfl (ex_move rfl) ?_
    refine JP_bnd fun u3 hu4 => ?_
    refine JP_take (i := 6) [0, 1, 2, 3, 4, 5, 6] [] rfl (by kernel_rfl) (by kernel_rfl) (by kernel_rfl) rfl rfl (wants_none rfl) rfl (ex_rem rfl rfl (nz_ne hu4)) ?_
    refine JP_bnd fun y5 hy6 => ?_
    refine JP_sq (i := 7) [] rfl (by kernel_rfl) (by kernel_rfl) (by kernel_rfl) rfl (wants_none rfl) rfl (sq_index 0 Try.underlying27 ti_2 rfl rfl rfl hy6) (fun q7 => ?_)
    refine JP_sq (i := 8) [] rfl (by kernel_rfl) (by kernel_rfl) (by kernel_rfl) rfl (wants_none rfl) rfl (sq_load_pt_o 0 (opens_int _) ti_2 rfl rfl) (fun _ => ?_)
    refine JP_take (i := 9) [0, 1, 2, 3, 4, 5, 6, 7] [] rfl (by kernel_rfl) (by kernel_rfl) (by kernel_rfl) rfl rfl (wants_none rfl) rfl (ex_assign rfl) ?_
    refine JP_take (i := 10) [0, 1, 2, 3, 4, 5, 6, 7] [] rfl (by kernel_rfl) (by kernel_rfl) (by kernel_rfl) rfl rfl (wants_none rfl) rfl (ex_assign rfl) ?_
    refine JP_go [] [] rfl rfl rfl (fun _ _ _ => ?_)
    refine JD_done (by kernel_rfl) ?_
    refine N_then ?_
    refine J_seq ?_
    refine J_cut' (S' := Int) (G' := Unit) (fun s9 _ => [(0, .pointer (some ⟨b0_, 0, none⟩)), (1, .int .i64 p1), (2, .func (.func 77) #[] #[.pointer (some ⟨b3_, 0, none⟩)]), (8, .int .i64 (p0.bottom.length : Int)), (9, .int .i64 s9), (10, .int .i64 y5)]) (fun s9 _ => [rest w B_, .rd v0_0 p0.list, .rd v0_1 p0.bottom, .ow 2 v0_2 p0.places, .bx b0_ 124 [v0_0, v0_1, v0_2, .int .i64 p0.left], .bx b3_ 2 [.int .i64 p3], .tkn (.int .i64 0) (0 : Int) (restL w B_)]) ?_ (fun s9 g10 => ?_)
    · refine J_seq ?_
      refine J_region ?_
      refine JL_q (wants_none rfl) rfl (ex_move rfl) ?_
      refine JL_q (wants_none rfl) rfl (ex_move rfl) ?_
      refine JL_bnd fun u11 hu12 => ?_
      refine JL_q (wants_none rfl) rfl (ex_rem rfl rfl (nz_ne hu12)) ?_
      refine JL_q (wants_none rfl) rfl (ex_gtr rfl rfl) ?_
      refine JL_nil ?_
      refine N_then ?_
      refine J_if rfl (fun h13 => ?_) (fun h13 => ?_)
      · refine J_draw [4] (by kernel_rfl) ?_
        refine JP_take (i := 0) [0, 1, 2, 3, 5, 6, 7] [4] rfl (by kernel_rfl) (by kernel_rfl) (by kernel_rfl) rfl rfl (wants_none rfl) rfl (ex_move rfl) ?_
        refine JP_take (i := 1) [0, 1, 2, 3, 5, 6, 7] [4] rfl (by kernel_rfl) (by kernel_rfl) (by kernel_rfl) rfl rfl (wants_none rfl) rfl (ex_nilCheck rfl) ?_
        refine JP_take (i := 2) [0, 1, 2, 3, 5, 6, 7] [4] rfl (by kernel_rfl) (by kernel_rfl) (by kernel_rfl) rfl rfl (wants_none rfl) rfl (ex_fieldAddr fi_124_0 rfl rfl) ?_
        refine JP_take (i := 3) [0, 1, 2, 3, 5, 6, 7] [4] rfl (by kernel_rfl) (by kernel_rfl) (by kernel_rfl) rfl rfl (wants_none rfl) rfl (ex_load_bx 3 ti_57 rfl rfl rfl) ?_
        refine JP_take (i := 4) [0, 1, 2, 3, 5, 6, 7] [4] rfl (by kernel_rfl) (by kernel_rfl) (by kernel_rfl) rfl rfl (wants_none rfl) rfl (ex_move rfl) ?_
        refine JP_take (i := 5) [0, 1, 2, 3, 5, 6, 7] [4] rfl (by kernel_rfl) (by kernel_rfl) (by kernel_rfl) rfl rfl (wants_none rfl) rfl (ex_nilCheck rfl) ?_
        refine JP_take (i := 6) [0, 1, 2, 3, 5, 6, 7] [4] rfl (by kernel_rfl) (by kernel_rfl) (by kernel_rfl) rfl rfl (wants_none rfl) rfl (ex_fieldAddr fi_124_2 rfl rfl) ?_
        refine JP_take (i := 7) [0, 1, 2, 3, 5, 6, 7] [4] rfl (by kernel_rfl) (by kernel_rfl) (by kernel_rfl) rfl rfl (wants_none rfl) rfl (ex_load_bx 3 ti_27 rfl rfl rfl) ?_
        refine JP_take (i := 8) [0, 1, 2, 3, 5, 6, 7] [4] rfl (by kernel_rfl) (by kernel_rfl) (by kernel_rfl) rfl rfl (wants_none rfl) rfl (ex_move rfl) ?_
        refine JP_take (i := 9) [0, 1, 2, 3, 5, 6, 7] [4] rfl (by kernel_rfl) (by kernel_rfl) (by kernel_rfl) rfl rfl (wants_none rfl) rfl (ex_sub rfl rfl) ?_
        refine JP_bnd fun y14 hy15 => ?_
        refine JP_ow_open (v := v0_2) 4 rfl hy15 ?_; rintro b16 cap17 rfl
        refine JP_take (i := 10) [0, 1, 2, 3, 5, 6, 7] [4] rfl (by kernel_rfl) (by kernel_rfl) (by kernel_rfl) rfl rfl (wants_none rfl) rfl (ex_index_own Try.underlying27 ti_2 rfl rfl hy15 (by first | rfl | simp)) ?_
        refine JP_go [0, 1, 2, 3, 5, 6, 7] [4] rfl rfl rfl (fun w19 h1_20 hp18 => ?_)
        refine JD_one (i := 11) (by kernel_rfl) ?_
        refine JO_q rfl (wants_none rfl) rfl (ex_load_ow_int 4 ti_2 rfl rfl hy15) ?_
        refine JD_bnd fun y22 hy23 => ?_
        refine JD_sq (i := 12) (fs := fun q24 => [.pt q24 y22]) [4] h1_20 rfl rfl (by kernel_rfl) (by kernel_rfl) (by kernel_rfl) (wants_none rfl) rfl (sq_index 2 Try.underlying57 ti_108 rfl rfl rfl hy23) (fun _ => rfl) (fun q24 h1_25 => ?_)
        refine JD_sq (i := 13) (fs := fun q26 => [.pt q26 y22.Right]) [5] h1_25 rfl rfl (by kernel_rfl) (by kernel_rfl) (by kernel_rfl) (wants_none rfl) rfl (sq_field_pt 0 (GTile.at_Right _) fi_108_2 rfl rfl rfl) (fun _ => rfl) (fun q26 h1_27 => ?_)
        refine JD_sq (i := 14) [6] h1_27 rfl rfl (by kernel_rfl) (by kernel_rfl) (by kernel_rfl) (wants_none rfl) rfl (sq_load_pt_o 0 (opens_int _) ti_2 rfl rfl) (fun _ => rfl) (fun _ h1_29 => ?_)
        refine JD_take (i := 15) hp18 rfl (by kernel_rfl) (by kernel_rfl) (by kernel_rfl) (wants_none rfl) rfl (ex_assign rfl) ?_
        refine JD_done (by kernel_rfl) ?_
        exact N_meet' () ⟨rfl, rfl, rfl, rfl, rfl, rfl, trivial⟩ [9, 4, 3, 6, 5, 7, 8] rfl rfl
      · refine J_skip ?_
        exact N_meet' () ⟨rfl, rfl, rfl, rfl, rfl, rfl, trivial⟩ [7, 2, 1, 4, 3, 5, 6] rfl rfl
    · refine N_then ?_
      refine J_seq ?_
      refine J_cut' (S' := Int) (G' := Unit) (fun s30 _ => [(0, .pointer (some ⟨b0_, 0, none⟩)), (1, .int .i64 p1), (2, .func (.func 77) #[] #[.pointer (some ⟨b3_, 0, none⟩)]), (8, .int .i64 (p0.bottom.length : Int)), (9, .int .i64 s9), (10, .int .i64 s30)]) (fun s30 _ => [rest w B_, .rd v0_0 p0.list, .rd v0_1 p0.bottom, .ow 2 v0_2 p0.places, .bx b0_ 124 [v0_0, v0_1, v0_2, .int .i64 p0.left], .bx b3_ 2 [.int .i64 p3], .tkn (.int .i64 0) (0 : Int) (restL w B_)]) ?_ (fun s30 g31 => ?_)
      · refine J_seq ?_
        refine J_region ?_
        refine JL_q (wants_none rfl) rfl (ex_move rfl) ?_
        refine JL_q (wants_none rfl) rfl (ex_move rfl) ?_
        refine JL_q (wants_none rfl) rfl (ex_geq rfl rfl) ?_
        refine JL_nil ?_
        refine N_then ?_
        refine J_if rfl (fun h32 => ?_) (fun h32 => ?_)
        · refine J_draw [3] (by kernel_rfl) ?_
          refine JP_take (i := 0) [0, 1, 2, 4, 5, 6] [3] rfl (by kernel_rfl) (by kernel_rfl) (by kernel_rfl) rfl rfl (wants_none rfl) rfl (ex_move rfl) ?_
          refine JP_take (i := 1) [0, 1, 2, 4, 5, 6] [3] rfl (by kernel_rfl) (by kernel_rfl) (by kernel_rfl) rfl rfl (wants_none rfl) rfl (ex_nilCheck rfl) ?_
          refine JP_take (i := 2) [0, 1, 2, 4, 5, 6] [3] rfl (by kernel_rfl) (by kernel_rfl) (by kernel_rfl) rfl rfl (wants_none rfl) rfl (ex_fieldAddr fi_124_0 rfl rfl) ?_
          refine JP_take (i := 3) [0, 1, 2, 4, 5, 6] [3] rfl (by kernel_rfl) (by kernel_rfl) (by kernel_rfl) rfl rfl (wants_none rfl) rfl (ex_load_bx 3 ti_57 rfl rfl rfl) ?_
          refine JP_take (i := 4) [0, 1, 2, 4, 5, 6] [3] rfl (by kernel_rfl) (by kernel_rfl) (by kernel_rfl) rfl rfl (wants_none rfl) rfl (ex_move rfl) ?_
          refine JP_take (i := 5) [0, 1, 2, 4, 5, 6] [3] rfl (by kernel_rfl) (by kernel_rfl) (by kernel_rfl) rfl rfl (wants_none rfl) rfl (ex_nilCheck rfl) ?_
          refine JP_take (i := 6) [0, 1, 2, 4, 5, 6] [3] rfl (by kernel_rfl) (by kernel_rfl) (by kernel_rfl) rfl rfl (wants_none rfl) rfl (ex_fieldAddr fi_124_2 rfl rfl) ?_
          refine JP_take (i := 7) [0, 1, 2, 4, 5, 6] [3] rfl (by kernel_rfl) (by kernel_rfl) (by kernel_rfl) rfl rfl (wants_none rfl) rfl (ex_load_bx 3 ti_27 rfl rfl rfl) ?_
          refine JP_take (i := 8) [0, 1, 2, 4, 5, 6] [3] rfl (by kernel_rfl) (by kernel_rfl) (by kernel_rfl) rfl rfl (wants_none rfl) rfl (ex_move rfl) ?_
          refine JP_take (i := 9) [0, 1, 2, 4, 5, 6] [3] rfl (by kernel_rfl) (by kernel_rfl) (by kernel_rfl) rfl rfl (wants_none rfl) rfl (ex_move rfl) ?_
          refine JP_take (i := 10) [0, 1, 2, 4, 5, 6] [3] rfl (by kernel_rfl) (by kernel_rfl) (by kernel_rfl) rfl rfl (wants_none rfl) rfl (ex_sub rfl rfl) ?_
          refine JP_bnd fun y33 hy34 => ?_
          refine JP_ow_open (v := v0_2) 3 rfl hy34 ?_; rintro b35 cap36 rfl
          refine JP_take (i := 11) [0, 1, 2, 4, 5, 6] [3] rfl (by kernel_rfl) (by kernel_rfl) (by kernel_rfl) rfl rfl (wants_none rfl) rfl (ex_index_own Try.underlying27 ti_2 rfl rfl hy34 (by first | rfl | simp)) ?_
          refine JP_go [0, 1, 2, 4, 5, 6] [3] rfl rfl rfl (fun w38 h1_39 hp37 => ?_)
          refine JD_one (i := 12) (by kernel_rfl) ?_
          refine JO_q rfl (wants_none rfl) rfl (ex_load_ow_int 3 ti_2 rfl rfl hy34) ?_
          refine JD_bnd fun y41 hy42 => ?_
          refine JD_sq (i := 13) (fs := fun q43 => [.pt q43 y41]) [3] h1_39 rfl rfl (by kernel_rfl) (by kernel_rfl) (by kernel_rfl) (wants_none rfl) rfl (sq_index 1 Try.underlying57 ti_108 rfl rfl rfl hy42) (fun _ => rfl) (fun q43 h1_44 => ?_)
          refine JD_sq (i := 14) (fs := fun q45 => [.pt q45 y41.Top]) [4] h1_44 rfl rfl (by kernel_rfl) (by kernel_rfl) (by kernel_rfl) (wants_none rfl) rfl (sq_field_pt 0 (GTile.at_Top _) fi_108_3 rfl rfl rfl) (fun _ => rfl) (fun q45 h1_46 => ?_)
          refine JD_sq (i := 15) [5] h1_46 rfl rfl (by kernel_rfl) (by kernel_rfl) (by kernel_rfl) (wants_none rfl) rfl (sq_load_pt_o 0 (opens_int _) ti_2 rfl rfl) (fun _ => rfl) (fun _ h1_48 => ?_)
          refine JD_take (i := 16) hp37 rfl (by kernel_rfl) (by kernel_rfl) (by kernel_rfl) (wants_none rfl) rfl (ex_assign rfl) ?_
          refine JD_done (by kernel_rfl) ?_
          exact N_meet' () ⟨rfl, rfl, rfl, rfl, rfl, rfl, trivial⟩ [2, 3, 4, 5, 6, 7, 8] rfl rfl
        · refine J_skip ?_
          exact N_meet' () ⟨rfl, rfl, rfl, rfl, rfl, rfl, trivial⟩ [0, 1, 2, 3, 4, 5, 6] rfl rfl
      · refine N_then ?_
        refine J_seq ?_
        refine J_seq ?_
        refine J_region ?_
        refine JL_q (wants_none rfl) rfl (ex_move rfl) ?_
        refine JL_q (wants_none rfl) rfl (ex_nilCheck rfl) ?_
        refine JL_q (wants_none rfl) rfl (ex_fieldAddr fi_124_0 rfl rfl) ?_
        refine JL_q (wants_none rfl) rfl (ex_load_bx 4 ti_57 rfl rfl rfl) ?_
        refine JL_q (wants_none rfl) rfl (ex_len_rd 1 Try.underlying57 rfl rfl) ?_
        refine JL_q (wants_none rfl) rfl (ex_move rfl) ?_
        refine JL_nil ?_
        refine N_then ?_
        refine J_loop' (S := (List Int) × Int × Int × Int) (G := Value) (F_impl_tiler_fill_impl_CountTilings_1_L1 p0 p1 (fun p0 p1 p3 => fixN (fun (rec_ : (Gtiler × Int × Int) → Option ((Bool × Bool) × ((List Int) × Int × Int))) (a_ : Gtiler × Int × Int) => F_impl_tiler_fill_impl_CountTilings_1_step (fun p0 p1 p3 => rec_ (p0, p1, p3)) a_.1 a_.2.1 a_.2.2) k_ (p0, p1, p3)) s9 s30) (fun s49 g50 => [(0, .pointer (some ⟨b0_, 0, none⟩)), (1, .int .i64 p1), (2, .func (.func 77) #[] #[.pointer (some ⟨b3_, 0, none⟩)]), (8, .int .i64 (p0.bottom.length : Int)), (9, .int .i64 s9), (10, .int .i64 s30), (79, v0_0), (80, .int .i64 (p0.list.length : Int)), (81, .int .i64 s49.2.2.2)]) (fun s49 g50 => [rest w B_, .rd v0_0 p0.list, .rd v0_1 p0.bottom, .ow 2 g50 s49.1, .bx b0_ 124 [v0_0, v0_1, g50, .int .i64 s49.2.1], .bx b3_ 2 [.int .i64 s49.2.2.1], .tkn (.int .i64 0) (0 : Int) (restL w B_)]) (p0.places, p0.left, p3, 0) v0_2 ⟨rfl, rfl, rfl, rfl, rfl, rfl, rfl, rfl, rfl, trivial⟩ [0, 1, 2, 3, 4, 5, 6] rfl rfl (fun s49 g50 => ?_) (fun s49 g50 => ?_)
        · unfold F_impl_tiler_fill_impl_CountTilings_1_L1
          refine J_seq ?_
          refine J_region ?_
          refine JL_q (wants_none rfl) rfl (ex_lss rfl rfl) ?_
          refine JL_nil ?_
          refine N_then ?_
          refine J_seq ?_
          refine J_if rfl (fun h51 => ?_) (fun h51 => ?_)
          · refine J_skip ?_
            refine N_then ?_
            refine J_seq ?_
            refine J_block ?_
            refine J_seq ?_
            refine J_region ?_
            refine JL_q (wants_none rfl) rfl (ex_move rfl) ?_
            refine JL_bnd fun y52 hy53 => ?_
            refine JL_st (wants_none rfl) rfl (st_index 1 Try.underlying57 ti_108 rfl rfl rfl hy53) (fun q54 => ?_)
            refine JL_st (wants_none rfl) rfl (st_load_pt_o 0 (GTile.opens _) ti_108 rfl rfl) (fun _ => ?_)
            refine JL_st (wants_none rfl) rfl (st_alloc zi_108 rfl) (fun b56 => ?_)
            refine JL_q (wants_none rfl) rfl (ex_assign rfl) ?_
            refine JL_sk (wants_none rfl) (sk_store_bx' 0 ti_108 rfl rfl (fun w hh => (cv_aggs ⟨cv_int, cv_int, cv_int, cv_int, trivial⟩)) rfl rfl rfl rfl) ?_
            refine JL_nil ?_
            refine N_then ?_
            refine J_seq ?_
            refine J_seq ?_
            refine J_draw [] (by kernel_rfl) ?_
            refine JP_take (i := 0) [0, 1, 2, 3, 4, 5, 6, 7, 8] [] rfl (by kernel_rfl) (by kernel_rfl) (by kernel_rfl) rfl rfl (wants_none rfl) rfl (ex_load_bx_agg 0 ti_108 rfl rfl rfl rfl) ?_
            refine JP_take (i := 1) [0, 1, 2, 3, 4, 5, 6, 7, 8] [] rfl (by kernel_rfl) (by kernel_rfl) (by kernel_rfl) rfl rfl (wants_none rfl) rfl (ex_move rfl) ?_
            refine JP_take (i := 2) [0, 1, 2, 3, 4, 5, 6, 7, 8] [] rfl (by kernel_rfl) (by kernel_rfl) (by kernel_rfl) rfl rfl (wants_none rfl) rfl (ex_move rfl) ?_
            refine JP_take (i := 3) [0, 1, 2, 3, 4, 5, 6, 7, 8] [] rfl (by kernel_rfl) (by kernel_rfl) (by kernel_rfl) rfl rfl (wants_none rfl) rfl (ex_move rfl) ?_
            refine JP_take (i := 4) [0, 1, 2, 3, 4, 5, 6, 7, 8] [] rfl (by kernel_rfl) (by kernel_rfl) (by kernel_rfl) rfl rfl (wants_none rfl) rfl (ex_move rfl) ?_
            refine JP_bnd fun u57 hu58 => ?_
            refine JP_take (i := 5) [0, 1, 2, 3, 4, 5, 6, 7, 8] [] rfl (by kernel_rfl) (by kernel_rfl) (by kernel_rfl) rfl rfl (wants_none rfl) rfl (ex_rem rfl rfl (nz_ne hu58)) ?_
            refine JP_take (i := 6) [0, 1, 2, 3, 4, 5, 6, 7, 8] [] rfl (by kernel_rfl) (by kernel_rfl) (by kernel_rfl) rfl rfl (wants_none rfl) rfl (ex_move rfl) ?_
            refine JP_take (i := 7) [0, 1, 2, 3, 4, 5, 6, 7, 8] [] rfl (by kernel_rfl) (by kernel_rfl) (by kernel_rfl) rfl rfl (wants_none rfl) rfl (ex_sub rfl rfl) ?_
            refine JP_take (i := 8) [0, 1, 2, 3, 4, 5, 6, 7, 8] [] rfl (by kernel_rfl) (by kernel_rfl) (by kernel_rfl) rfl rfl (wants_none rfl) rfl (ex_eql rfl rfl) ?_
            refine JP_go [0, 1, 2, 3, 4, 5, 6, 7, 8] [] rfl rfl rfl (fun w60 h1_61 hp59 => ?_)
            refine JD_bnd fun r62 hr63 => ?_
            refine JD_one (i := 9) (by kernel_rfl) ?_
            refine JO_call rfl (wants_none rfl) rfl Try.call126 rfl (Ca_of0 fun w hh => c_impl_fitsAt _ w (fun _ hk => hk.elim) _ _ (GTile.rdmk (Rd.mk_int _ _ _) (Rd.mk_int _ _ _) (Rd.mk_int _ _ _) (Rd.mk_int _ _ _)) _ _ _ _ hr63) (fun _ => ?_)
            refine JD_take (i := 10) hp59 rfl (by kernel_rfl) (by kernel_rfl) (by kernel_rfl) (wants_none rfl) rfl (ex_not rfl) ?_
            refine JD_done (by kernel_rfl) ?_
            refine N_then ?_
            refine J_if rfl (fun h64 => ?_) (fun h64 => ?_)
            · refine J_exit ?_
              refine N_then_exit ?_
              refine N_block_exit ?_
              refine N_then ?_
              refine J_region ?_
              refine JL_q (wants_none rfl) rfl (ex_add rfl rfl) ?_
              refine JL_q (wants_none rfl) rfl (ex_move rfl) ?_
              refine JL_nil ?_
              exact N_next' g50 ⟨rfl, rfl, rfl, rfl, rfl, rfl, rfl, rfl, rfl, trivial⟩ [2, 3, 4, 5, 6, 7, 8] rfl rfl
            · refine J_skip ?_
              refine N_then ?_
              refine J_seq ?_
              refine J_seq ?_
              refine J_region ?_
              refine JL_q (wants_none rfl) rfl (ex_move rfl) ?_
              refine JL_q (wants_none rfl) rfl (ex_nilCheck rfl) ?_
              refine JL_q (wants_none rfl) rfl (ex_fieldAddr fi_124_3 rfl rfl) ?_
              refine JL_q (wants_none rfl) rfl (ex_load_bx 6 ti_2 rfl rfl rfl) ?_
              refine JL_q (wants_none rfl) rfl (ex_eql rfl rfl) ?_
              refine JL_nil ?_
              refine N_then ?_
              refine J_if rfl (fun h65 => ?_) (fun h65 => ?_)
              · refine J_seq ?_
                refine J_region ?_
                refine JL_q (wants_none rfl) rfl (ex_assign rfl) ?_
                refine JL_q (wants_none rfl) rfl (ex_assign rfl) ?_
                refine JL_nil ?_
                refine N_then ?_
                refine J_ret ?_
                refine N_then_ret ?_
                refine N_block_ret ?_
                refine N_then_ret ?_
                refine N_round_ret ?_
                refine N_then_ret ?_
                exact N_ret2 rfl (rv_tmp rfl) (rv_tmp rfl) (fun w hh => ⟨g50, rfl, hh.sel [6, 5, 7, 8, 2] rfl⟩)
              · refine J_skip ?_
                refine N_then ?_
                refine J_seq ?_
                refine J_region ?_
                refine JL_q (wants_none rfl) rfl (ex_move rfl) ?_
                refine JL_q (wants_none rfl) rfl (ex_nilCheck rfl) ?_
                refine JL_q (wants_none rfl) rfl (ex_fieldAddr fi_124_3 rfl rfl) ?_
                refine JL_q (wants_none rfl) rfl (ex_load_bx 6 ti_2 rfl rfl rfl) ?_
                refine JL_q (wants_none rfl) rfl (ex_sub rfl rfl) ?_
                refine JL_q (wants_none rfl) rfl (ex_nilCheck rfl) ?_
                refine JL_q (wants_none rfl) rfl (ex_fieldAddr fi_124_3 rfl rfl) ?_
                refine JL_sk (wants_none rfl) (sk_store_bx' 6 ti_2 rfl rfl (fun w hh => cv_int) rfl rfl rfl rfl) ?_
                refine JL_nil ?_
                refine N_then ?_
                refine J_seq ?_
                refine J_region ?_
                refine JL_q (wants_none rfl) rfl (ex_move rfl) ?_
                refine JL_q (wants_none rfl) rfl (ex_nilCheck rfl) ?_
                refine JL_q (wants_none rfl) rfl (ex_fieldAddr fi_124_2 rfl rfl) ?_
                refine JL_q (wants_none rfl) rfl (ex_load_bx 6 ti_27 rfl rfl rfl) ?_
                refine JL_q (wants_none rfl) rfl (ex_move rfl) ?_
                refine JL_q (wants_none rfl) rfl (ex_move rfl) ?_
                refine JL_bnd fun y66 hy67 => ?_
                refine JL_ow_open (v := g50) 5 rfl hy67 ?_; rintro b68 cap69 rfl
                refine JL_q (wants_none rfl) rfl (ex_index_ow 5 Try.underlying27 ti_2 rfl rfl rfl hy67) ?_
                refine JL_sk (wants_none rfl) (sk_store_ow 5 ti_2 rfl rfl rfl hy67 (fun w hh => (Rd.mk_int _ _ _))) ?_
                refine JL_nil ?_
                refine N_then ?_
                refine J_seq ?_
                refine J_region ?_
                refine JL_q (wants_none rfl) rfl (ex_move rfl) ?_
                refine JL_q (wants_none rfl) rfl (ex_move rfl) ?_
                refine JL_q (wants_none rfl) rfl (ex_add rfl rfl) ?_
                refine JL_q (wants_none rfl) rfl (ex_move rfl) ?_
                refine JL_bnd fun r70 hr71 => ?_
                refine JL_callT (wants_none rfl) rfl Try.call76 rfl (CaT_of [6, 5, 7] [0, 1, 2, 3, 4, 8] rfl rfl (fun _ => rfl) fun w hh => ih_ w b0_ (⟨p0.list, p0.bottom, (s49.1.set p1.toNat s49.2.2.2), (w64 (s49.2.1 - 1))⟩ : Gtiler) v0_0 v0_1 (.slice (some ⟨b68, 0, none⟩) s49.1.length cap69) b3_ s49.2.2.1 _ rfl (hh.handed [6, 5, 7] rfl rfl rfl rfl) (hh.apart [6, 5, 7] rfl (hh.rd 3 rfl)) (hh.apart [6, 5, 7] rfl (hh.rd 4 rfl)) _ _ hr71) (fun x72 => ?_)
                refine JL_q (wants_none rfl) rfl (ex_move rfl) ?_
                refine JL_q (wants_none rfl) rfl (ex_extract rfl rfl) ?_
                refine JL_q (wants_none rfl) rfl (ex_extract rfl rfl) ?_
                refine JL_q (wants_none rfl) rfl (ex_assign rfl) ?_
                refine JL_q (wants_none rfl) rfl (ex_assign rfl) ?_
                refine JL_nil ?_
                refine N_then ?_
                refine J_seq ?_
                refine J_region ?_
                refine JL_q (wants_none rfl) rfl (ex_move rfl) ?_
                refine JL_q (wants_none rfl) rfl (ex_not rfl) ?_
                refine JL_nil ?_
                refine N_then ?_
                refine J_if rfl (fun h73 => ?_) (fun h73 => ?_)
                · refine J_seq ?_
                  refine J_region ?_
                  refine JL_q (wants_none rfl) rfl (ex_move rfl) ?_
                  refine JL_q (wants_none rfl) rfl (ex_assign rfl) ?_
                  refine JL_q (wants_none rfl) rfl (ex_assign rfl) ?_
                  refine JL_nil ?_
                  refine N_then ?_
                  refine J_ret ?_
                  refine N_block_ret ?_
                  refine N_then_ret ?_
                  refine N_round_ret ?_
                  refine N_then_ret ?_
                  exact N_ret2 rfl (rv_tmp rfl) (rv_tmp rfl) (fun w hh => ⟨x72, rfl, hh.sel [0, 1, 2, 8, 5] rfl⟩)
                · refine J_skip ?_
                  refine N_block ?_
                  refine N_then ?_
                  refine J_region ?_
                  refine JL_q (wants_none rfl) rfl (ex_add rfl rfl) ?_
                  refine JL_q (wants_none rfl) rfl (ex_move rfl) ?_
                  refine JL_nil ?_
                  exact N_next' x72 ⟨rfl, rfl, rfl, rfl, rfl, rfl, rfl, rfl, rfl, trivial⟩ [5, 6, 7, 1, 0, 2, 8] rfl rfl
          · refine J_exit ?_
            refine N_then_exit ?_
            exact N_break' g50 ⟨rfl, rfl, rfl, rfl, rfl, rfl, rfl, rfl, rfl, trivial⟩ [0, 1, 2, 3, 4, 5, 6] rfl rfl
        · refine N_then ?_
          refine J_seq ?_
          refine J_region ?_
          refine JL_q (wants_none rfl) rfl (ex_assign rfl) ?_
          refine JL_q (wants_none rfl) rfl (ex_assign rfl) ?_
          refine JL_nil ?_
          refine N_then ?_
          refine J_ret ?_
          exact N_ret2 rfl (rv_tmp rfl) (rv_tmp rfl) (fun w hh => ⟨g50, rfl, hh.sel [4, 3, 5, 6, 0] rfl⟩)
theorem c_impl_tiler_fill_impl_CountTilings_1 (w : World) (b0_ : Nat) (p0 : Gtiler) (v0_0 : Value) (v0_1 : Value) (v0_2 : Value) (b3_ : Nat) (p3 : Int) (B_ : List Nat) (hB_ : Ctx.owns [.bx b0_ 124 [v0_0, v0_1, v0_2, .int .i64 p0.left], .ow 2 v0_2 p0.places, .bx b3_ 2 [.int .i64 p3]] = B_) (hn_ : PHanded w [.bx b0_ 124 [v0_0, v0_1, v0_2, .int .i64 p0.left], .ow 2 v0_2 p0.places, .bx b3_ 2 [.int .i64 p3]]) (hp0_0 : Rd (fun k => k ∈ B_) w v0_0 p0.list) (hp0_1 : Rd (fun k => k ∈ B_) w v0_1 p0.bottom) (p1 : Int) (r : (Bool × Bool) × ((List Int) × Int × Int)) (hr : F_impl_tiler_fill_impl_CountTilings_1 p0 p1 p3 = some r) :
    PtrCon Try.prog 76 [.pointer (some ⟨b0_, 0, none⟩), .int .i64 p1, .func (.func 77) #[] #[.pointer (some ⟨b3_, 0, none⟩)]] w B_ (fun x_ : Value => .tuple #[.bool r.1.1, .bool r.1.2]) (fun x_ => [.bx b0_ 124 [v0_0, v0_1, x_, .int .i64 r.2.2.1], .ow 2 x_ r.2.1, .bx b3_ 2 [.int .i64 r.2.2.2]]) := by
  obtain ⟨k_, hk_⟩ := fixR_some hr
  exact c_impl_tiler_fill_impl_CountTilings_1_ind k_ w b0_ p0 v0_0 v0_1 v0_2 b3_ p3 B_ hB_ hn_ hp0_0 hp0_1 p1 r hk_

set_option maxHeartbeats 40000000 in
theorem c_impl_CountTilings (A : Nat → Prop) (w : World) (hA : ∀ k, A k → k < w.heap.size) (v0_ : Value) (p0 : (List GTile)) (hp0 : Rd A w v0_ p0) (v1_ : Value) (p1 : (List Int)) (hp1 : Rd A w v1_ p1) (p2 : Int) (p3 : Int) (r : Int × Int) (hr : F_impl_CountTilings p0 p1 p2 p3 = some r) :
    Con Try.prog 26 [v0_, v1_, .int .i64 p2, .int .i64 p3] A w (fun x_ : Unit => .tuple #[.int .i64 r.1, .int .i64 r.2]) (fun x_ => []) := by
  refine Con_of (v := fun (r : Int × Int) (x_ : Unit) => .tuple #[.int .i64 r.1, .int .i64 r.2]) (fs := fun r x_ => []) Try.func26 rfl Try.ntmps26 rfl (((SH.start hA).start_rd rfl hp0).start_rd rfl hp1) rfl ?_ hr
  unfold F_impl_CountTilings
  refine J_seq ?_
  refine J_region ?_
  refine JL_q (wants_none rfl) rfl (ex_assign rfl) ?_
  refine JL_q (wants_none rfl) rfl (ex_assign rfl) ?_
  refine JL_nil ?_
  refine N_then ?_
  refine J_seq ?_
  refine J_region ?_
  refine JL_q (wants_none rfl) rfl (ex_move rfl) ?_
  refine JL_q (wants_none rfl) rfl (ex_move rfl) ?_
  refine JL_q (wants_none rfl) rfl (ex_move rfl) ?_
  refine JL_q (wants_none rfl) rfl (ex_move rfl) ?_
  refine JL_inline (wants_none rfl) rfl Try.call75 rfl Try.func75 rfl Try.ntmps75 rfl rfl (fun K_ hK1 => ?_)
  refine J_seq ?_
  refine J_region ?_
  refine JL_q (wants_none rfl) rfl (ex_assign rfl) ?_
  refine JL_q (wants_none rfl) rfl (ex_assign rfl) ?_
  refine JL_nil ?_
  refine N_then ?_
  refine J_seq ?_
  refine J_seq ?_
  refine J_region ?_
  refine JL_q (wants_none rfl) rfl (ex_move rfl) ?_
  refine JL_bnd fun r2 hr3 => ?_
  refine JL_call (wants_none rfl) rfl Try.call27 rfl (Ca_of0 fun w hh => c_impl_ValidTiles _ w (fun _ hk => hk.elim) _ _ (hh.rd0 1 rfl) _ hr3) (fun _ => ?_)
  refine JL_q (wants_none rfl) rfl (ex_not rfl) ?_
  refine JL_nil ?_
  refine N_then ?_
  refine J_if rfl (fun h4 => ?_) (fun h4 => ?_)
  · refine J_seq ?_
    refine J_region ?_
    refine JL_q (wants_none rfl) rfl (ex_assign rfl) ?_
    refine JL_q (wants_none rfl) rfl (ex_assign rfl) ?_
    refine JL_nil ?_
    refine N_then ?_
    refine J_ret ?_
    refine N_then_ret ?_
    refine N_inl2 hK1 rfl (rv_tmp rfl) (rv_tmp rfl) ?_
    refine JL_q (wants_none rfl) rfl (ex_move rfl) ?_
    refine JL_q (wants_none rfl) rfl (ex_extract rfl rfl) ?_
    refine JL_q (wants_none rfl) rfl (ex_extract rfl rfl) ?_
    refine JL_q (wants_none rfl) rfl (ex_assign rfl) ?_
    refine JL_q (wants_none rfl) rfl (ex_assign rfl) ?_
    refine JL_nil ?_
    refine N_then ?_
    refine J_seq ?_
    refine J_seq ?_
    refine J_region ?_
    refine JL_q (wants_none rfl) rfl (ex_move rfl) ?_
    refine JL_q (wants_none rfl) rfl (ex_neq rfl rfl) ?_
    refine JL_nil ?_
    refine N_then ?_
    refine J_if_true rfl (by decide) ?_
    refine J_seq ?_
    refine J_region ?_
    refine JL_q (wants_none rfl) rfl (ex_move rfl) ?_
    refine JL_q (wants_none rfl) rfl (ex_assign rfl) ?_
    refine JL_q (wants_none rfl) rfl (ex_assign rfl) ?_
    refine JL_nil ?_
    refine N_then ?_
    refine J_ret ?_
    refine N_then_ret ?_
    exact N_ret2 rfl (rv_tmp rfl) (rv_tmp rfl) (fun w hh => ⟨(), rfl, hh.sel [] rfl⟩)
  · refine J_skip ?_
    refine N_then ?_
    refine J_seq ?_
    refine J_seq ?_
    refine J_region ?_
    refine JL_q (wants_none rfl) rfl (ex_move rfl) ?_
    refine JL_bnd fun r5 hr6 => ?_
    refine JL_call (wants_none rfl) rfl Try.call86 rfl (Ca_of0 fun w hh => c_impl_isFrame _ w (fun _ hk => hk.elim) _ _ (hh.rd0 0 rfl) _ hr6) (fun _ => ?_)
    refine JL_q (wants_none rfl) rfl (ex_not rfl) ?_
    refine JL_q (wants_none rfl) rfl (ex_move rfl) ?_
    refine JL_cond (fun h7 => ?_) (fun h7 => ?_)
    · refine JL_passed rfl rfl rfl h7 ?_
      refine JL_passed rfl rfl rfl h7 ?_
      refine JL_passed rfl rfl rfl h7 ?_
      refine JL_q (wants_none rfl) rfl (ex_pick_true rfl h7 rfl) ?_
      refine JL_q (wants_none rfl) rfl (ex_move rfl) ?_
      refine JL_passed rfl rfl rfl rfl ?_
      refine JL_passed rfl rfl rfl rfl ?_
      refine JL_passed rfl rfl rfl rfl ?_
      refine JL_q (wants_none rfl) rfl (ex_pick_true rfl rfl rfl) ?_
      refine JL_nil ?_
      refine N_then ?_
      refine J_if_true rfl rfl ?_
      refine J_seq ?_
      refine J_region ?_
      refine JL_q (wants_none rfl) rfl (ex_assign rfl) ?_
      refine JL_q (wants_none rfl) rfl (ex_assign rfl) ?_
      refine JL_nil ?_
      refine N_then ?_
      refine J_ret ?_
      refine N_then_ret ?_
      refine N_inl2 hK1 rfl (rv_tmp rfl) (rv_tmp rfl) ?_
      refine JL_q (wants_none rfl) rfl (ex_move rfl) ?_
      refine JL_q (wants_none rfl) rfl (ex_extract rfl rfl) ?_
      refine JL_q (wants_none rfl) rfl (ex_extract rfl rfl) ?_
      refine JL_q (wants_none rfl) rfl (ex_assign rfl) ?_
      refine JL_q (wants_none rfl) rfl (ex_assign rfl) ?_
      refine JL_nil ?_
      refine N_then ?_
      refine J_seq ?_
      refine J_seq ?_
      refine J_region ?_
      refine JL_q (wants_none rfl) rfl (ex_move rfl) ?_
      refine JL_q (wants_none rfl) rfl (ex_neq rfl rfl) ?_
      refine JL_nil ?_
      refine N_then ?_
      refine J_if_true rfl (by decide) ?_
      refine J_seq ?_
      refine J_region ?_
      refine JL_q (wants_none rfl) rfl (ex_move rfl) ?_
      refine JL_q (wants_none rfl) rfl (ex_assign rfl) ?_
      refine JL_q (wants_none rfl) rfl (ex_assign rfl) ?_
      refine JL_nil ?_
      refine N_then ?_
      refine J_ret ?_
      refine N_then_ret ?_
      exact N_ret2 rfl (rv_tmp rfl) (rv_tmp rfl) (fun w hh => ⟨(), rfl, hh.sel [] rfl⟩)
    · refine JL_q (wants_some rfl rfl rfl h7) rfl (ex_move rfl) ?_
      refine JL_bnd fun r8 hr9 => ?_
      refine JL_call (wants_some rfl rfl rfl h7) rfl Try.call44 rfl (Ca_of0 fun w hh => c_impl_within _ w (fun _ hk => hk.elim) _ _ _ _ hr9) (fun _ => ?_)
      refine JL_q (wants_some rfl rfl rfl h7) rfl (ex_not rfl) ?_
      refine JL_q (wants_none rfl) rfl (ex_pick_false rfl h7 rfl) ?_
      refine JL_q (wants_none rfl) rfl (ex_move rfl) ?_
      refine JL_cond (fun h10 => ?_) (fun h10 => ?_)
      · refine JL_passed rfl rfl rfl h10 ?_
        refine JL_passed rfl rfl rfl h10 ?_
        refine JL_passed rfl rfl rfl h10 ?_
        refine JL_q (wants_none rfl) rfl (ex_pick_true rfl h10 rfl) ?_
        refine JL_nil ?_
        refine N_then ?_
        refine J_if_true rfl rfl ?_
        refine J_seq ?_
        refine J_region ?_
        refine JL_q (wants_none rfl) rfl (ex_assign rfl) ?_
        refine JL_q (wants_none rfl) rfl (ex_assign rfl) ?_
        refine JL_nil ?_
        refine N_then ?_
        refine J_ret ?_
        refine N_then_ret ?_
        refine N_inl2 hK1 rfl (rv_tmp rfl) (rv_tmp rfl) ?_
        refine JL_q (wants_none rfl) rfl (ex_move rfl) ?_
        refine JL_q (wants_none rfl) rfl (ex_extract rfl rfl) ?_
        refine JL_q (wants_none rfl) rfl (ex_extract rfl rfl) ?_
        refine JL_q (wants_none rfl) rfl (ex_assign rfl) ?_
        refine JL_q (wants_none rfl) rfl (ex_assign rfl) ?_
        refine JL_nil ?_
        refine N_then ?_
        refine J_seq ?_
        refine J_seq ?_
        refine J_region ?_
        refine JL_q (wants_none rfl) rfl (ex_move rfl) ?_
        refine JL_q (wants_none rfl) rfl (ex_neq rfl rfl) ?_
        refine JL_nil ?_
        refine N_then ?_
        refine J_if_true rfl (by decide) ?_
        refine J_seq ?_
        refine J_region ?_
        refine JL_q (wants_none rfl) rfl (ex_move rfl) ?_
        refine JL_q (wants_none rfl) rfl (ex_assign rfl) ?_
        refine JL_q (wants_none rfl) rfl (ex_assign rfl) ?_
        refine JL_nil ?_
        refine N_then ?_
        refine J_ret ?_
        refine N_then_ret ?_
        exact N_ret2 rfl (rv_tmp rfl) (rv_tmp rfl) (fun w hh => ⟨(), rfl, hh.sel [] rfl⟩)
      · refine JL_q (wants_some rfl rfl rfl h10) rfl (ex_move rfl) ?_
        refine JL_bnd fun r11 hr12 => ?_
        refine JL_call (wants_some rfl rfl rfl h10) rfl Try.call125 rfl (Ca_of0 fun w hh => c_impl_budgetOk _ w (fun _ hk => hk.elim) _ _ hr12) (fun _ => ?_)
        refine JL_q (wants_some rfl rfl rfl h10) rfl (ex_not rfl) ?_
        refine JL_q (wants_none rfl) rfl (ex_pick_false rfl h10 rfl) ?_
        refine JL_nil ?_
        refine N_then ?_
        refine J_if rfl (fun h13 => ?_) (fun h13 => ?_)
        · refine J_seq ?_
          refine J_region ?_
          refine JL_q (wants_none rfl) rfl (ex_assign rfl) ?_
          refine JL_q (wants_none rfl) rfl (ex_assign rfl) ?_
          refine JL_nil ?_
          refine N_then ?_
          refine J_ret ?_
          refine N_then_ret ?_
          refine N_inl2 hK1 rfl (rv_tmp rfl) (rv_tmp rfl) ?_
          refine JL_q (wants_none rfl) rfl (ex_move rfl) ?_
          refine JL_q (wants_none rfl) rfl (ex_extract rfl rfl) ?_
          refine JL_q (wants_none rfl) rfl (ex_extract rfl rfl) ?_
          refine JL_q (wants_none rfl) rfl (ex_assign rfl) ?_
          refine JL_q (wants_none rfl) rfl (ex_assign rfl) ?_
          refine JL_nil ?_
          refine N_then ?_
          refine J_seq ?_
          refine J_seq ?_
          refine J_region ?_
          refine JL_q (wants_none rfl) rfl (ex_move rfl) ?_
          refine JL_q (wants_none rfl) rfl (ex_neq rfl rfl) ?_
          refine JL_nil ?_
          refine N_then ?_
          refine J_if_true rfl (by decide) ?_
          refine J_seq ?_
          refine J_region ?_
          refine JL_q (wants_none rfl) rfl (ex_move rfl) ?_
          refine JL_q (wants_none rfl) rfl (ex_assign rfl) ?_
          refine JL_q (wants_none rfl) rfl (ex_assign rfl) ?_
          refine JL_nil ?_
          refine N_then ?_
          refine J_ret ?_
          refine N_then_ret ?_
          exact N_ret2 rfl (rv_tmp rfl) (rv_tmp rfl) (fun w hh => ⟨(), rfl, hh.sel [] rfl⟩)
        · refine J_skip ?_
          refine N_then ?_
          refine J_seq ?_
          refine J_region ?_
          refine JL_q (wants_none rfl) rfl (ex_move rfl) ?_
          refine JL_q (wants_none rfl) rfl (ex_move rfl) ?_
          refine JL_q (wants_none rfl) rfl (ex_move rfl) ?_
          refine JL_bnd fun r14 hr15 => ?_
          refine JL_call (wants_none rfl) rfl Try.call87 rfl (Ca_of0 fun w hh => c_impl_size_int64 _ w (fun _ hk => hk.elim) _ _ (hh.rd0 0 rfl) _ hr15) (fun _ => ?_)
          refine JL_q (wants_none rfl) rfl (ex_move rfl) ?_
          refine JL_q (wants_none rfl) rfl (ex_mul rfl rfl) ?_
          refine JL_bnd fun z16 hz17 => ?_
          refine JL_st (wants_none rfl) rfl (st_make (α := Int) Try.underlying27 ti_2 zi_2 bi_2 rfl (fun _ _ => zero_int) rfl hz17) (fun b18 => ?_)
          refine JL_q (wants_none rfl) rfl (ex_move rfl) ?_
          refine JL_q (wants_none rfl) rfl (ex_build si_124 rfl (.cons fi_124_0 rfl rfl (.cons fi_124_1 rfl rfl (.cons fi_124_2 rfl rfl (.cons fi_124_3 rfl rfl .nil)))) (fun w hh => ⟨(hh.cv 2 rfl), (hh.cv 1 rfl), (hh.cv_ow 0 rfl), cv_int, trivial⟩)) ?_
          refine JL_st (wants_none rfl) rfl (st_box' rfl (fun w hh => (cv_aggs ⟨(hh.cv 2 rfl), (hh.cv 1 rfl), (hh.cv_ow 0 rfl), cv_int, trivial⟩))) (fun b19 => ?_)
          refine JL_q (wants_none rfl) rfl (ex_assign rfl) ?_
          refine JL_q (wants_none rfl) rfl (ex_assign rfl) ?_
          refine JL_nil ?_
          refine N_then ?_
          refine J_ret ?_
          refine N_inl2 hK1 rfl (rv_tmp rfl) (rv_tmp rfl) ?_
          refine JL_q (wants_none rfl) rfl (ex_move rfl) ?_
          refine JL_q (wants_none rfl) rfl (ex_extract rfl rfl) ?_
          refine JL_q (wants_none rfl) rfl (ex_extract rfl rfl) ?_
          refine JL_q (wants_none rfl) rfl (ex_assign rfl) ?_
          refine JL_q (wants_none rfl) rfl (ex_assign rfl) ?_
          refine JL_nil ?_
          refine N_then ?_
          refine J_seq ?_
          refine J_seq ?_
          refine J_region ?_
          refine JL_q (wants_none rfl) rfl (ex_move rfl) ?_
          refine JL_q (wants_none rfl) rfl (ex_neq rfl rfl) ?_
          refine JL_nil ?_
          refine N_then ?_
          refine J_if_false rfl (by decide) ?_
          refine J_skip ?_
          refine N_then ?_
          refine J_seq ?_
          refine J_region ?_
          refine JL_st (wants_none rfl) rfl (st_alloc zi_2 rfl) (fun b20 => ?_)
          refine JL_sk (wants_none rfl) (sk_store_bx' 0 ti_2 rfl rfl (fun w hh => cv_int) rfl rfl rfl rfl) ?_
          refine JL_nil ?_
          refine N_then ?_
          refine J_seq ?_
          refine J_region ?_
          refine JL_q (wants_none rfl) rfl (ex_move rfl) ?_
          refine JL_q (wants_none rfl) rfl (ex_makeFunc rfl) ?_
          refine JL_bnd fun r21 hr22 => ?_
          refine JL_callT (wants_none rfl) rfl Try.call76 rfl (CaT_of [1, 2, 0] [3, 4] rfl rfl (fun _ => rfl) fun w hh => c_impl_tiler_fill_impl_CountTilings_1 w b19 (⟨p0, p1, z16, p3⟩ : Gtiler) v0_ v1_ (.slice (some ⟨b18, 0, none⟩) z16.length z16.length) b20 0 _ rfl (hh.handed [1, 2, 0] rfl rfl rfl rfl) (hh.apart [1, 2, 0] rfl (hh.rd 4 rfl)) (hh.apart [1, 2, 0] rfl (hh.rd 3 rfl)) _ _ hr22) (fun x23 => ?_)
          refine JL_q (wants_none rfl) rfl (ex_move rfl) ?_
          refine JL_q (wants_none rfl) rfl (ex_extract rfl rfl) ?_
          refine JL_q (wants_none rfl) rfl (ex_extract rfl rfl) ?_
          refine JL_q (wants_none rfl) rfl (ex_assign rfl) ?_
          refine JL_q (wants_none rfl) rfl (ex_assign rfl) ?_
          refine JL_nil ?_
          refine N_then ?_
          refine J_seq ?_
          refine J_seq ?_
          refine J_region ?_
          refine JL_q (wants_none rfl) rfl (ex_move rfl) ?_
          refine JL_q (wants_none rfl) rfl (ex_not rfl) ?_
          refine JL_nil ?_
          refine N_then ?_
          refine J_if rfl (fun h24 => ?_) (fun h24 => ?_)
          · refine J_seq ?_
            refine J_region ?_
            refine JL_q (wants_none rfl) rfl (ex_assign rfl) ?_
            refine JL_q (wants_none rfl) rfl (ex_assign rfl) ?_
            refine JL_nil ?_
            refine N_then ?_
            refine J_ret ?_
            refine N_then_ret ?_
            exact N_ret2 rfl (rv_tmp rfl) (rv_tmp rfl) (fun w hh => ⟨(), rfl, hh.sel [] rfl⟩)
          · refine J_skip ?_
            refine N_then ?_
            refine J_seq ?_
            refine J_region ?_
            refine JL_q (wants_none rfl) rfl (ex_load_bx 2 ti_2 rfl rfl rfl) ?_
            refine JL_q (wants_none rfl) rfl (ex_assign rfl) ?_
            refine JL_q (wants_none rfl) rfl (ex_assign rfl) ?_
            refine JL_nil ?_
            refine N_then ?_
            refine J_ret ?_
            exact N_ret2 rfl (rv_tmp rfl) (rv_tmp rfl) (fun w hh => ⟨(), rfl, hh.sel [] rfl⟩)

set_option maxHeartbeats 40000000 in
theorem c_slices_Chunk_Sint64_int64_1 (A : Nat → Prop) (w : World) (hA : ∀ k, A k → k < w.heap.size) (v0_ : Value) (p0 : ((List Int) → Option Bool)) (hp0 : Clo Try.prog w v0_ p0 .bool) (v1_ : Value) (p1 : (List Int)) (hp1 : RdA A w.heap.size w v1_ p1) (v2_ : Value) (p2 : Int) (hp2 : RdA A w.heap.size w v2_ p2) (r : Unit) (hr : F_slices_Chunk_Sint64_int64_1 p0 p1 p2 = some r) :
    Con Try.prog 127 [v0_, v1_, v2_] A w (fun x_ : Unit => .tuple #[]) (fun x_ => []) := by
  refine Con_of (v := fun (r : Unit) (x_ : Unit) => .tuple #[]) (fs := fun r x_ => []) Try.func127 rfl Try.ntmps127 rfl (((SH.start hA).start_pa' rfl hp1).start_pa' rfl hp2) rfl ?_ hr
  unfold F_slices_Chunk_Sint64_int64_1
  refine J_seq ?_
  refine J_region ?_
  refine JL_q (wants_none rfl) rfl (ex_assign rfl) ?_
  refine JL_nil ?_
  refine N_then ?_
  refine J_loop' (S := Int) (G := Unit) (F_slices_Chunk_Sint64_int64_1_L1 p0 p1 p2) (fun s1 _ => [(0, v0_), (1, v1_), (2, v2_), (4, .int .i64 s1)]) (fun s1 _ => [.pa v1_ p1, .pa v2_ p2]) 0 () ⟨rfl, rfl, rfl, rfl, trivial⟩ [1, 0] rfl rfl (fun s1 g2 => ?_) (fun s1 g2 => ?_)
  · unfold F_slices_Chunk_Sint64_int64_1_L1
    refine J_seq ?_
    refine J_seq ?_
    refine J_region ?_
    refine JL_q (wants_none rfl) rfl (ex_move rfl) ?_
    refine JL_st (wants_none rfl) rfl (st_load_pa_o 0 (opens_sl _) ti_27 rfl rfl) (fun v3 => ?_)
    refine JL_q (wants_none rfl) rfl (ex_len_rd 0 Try.underlying27 rfl rfl) ?_
    refine JL_q (wants_none rfl) rfl (ex_lss rfl rfl) ?_
    refine JL_nil ?_
    refine N_then ?_
    refine J_if rfl (fun h4 => ?_) (fun h4 => ?_)
    · refine J_skip ?_
      refine N_then ?_
      refine J_seq ?_
      refine J_block ?_
      refine J_seq ?_
      refine J_draw [] (by kernel_rfl) ?_
      refine JP_sq (i := 0) [] rfl (by kernel_rfl) (by kernel_rfl) (by kernel_rfl) rfl (wants_none rfl) rfl (sq_load_pa_o 2 (opens_int _) ti_3 rfl rfl) (fun _ => ?_)
      refine JP_sq (i := 1) [] rfl (by kernel_rfl) (by kernel_rfl) (by kernel_rfl) rfl (wants_none rfl) rfl (sq_load_pa_o 1 (opens_sl _) ti_27 rfl rfl) (fun v6 => ?_)
      refine JP_take (i := 2) [0, 1, 2, 3] [] rfl (by kernel_rfl) (by kernel_rfl) (by kernel_rfl) rfl rfl (wants_none rfl) rfl (ex_move rfl) ?_
      refine JP_bnd fun z7 hz8 => ?_
      refine JP_sq (i := 3) [] rfl (by kernel_rfl) (by kernel_rfl) (by kernel_rfl) rfl (wants_none rfl) rfl (sq_slice 0 Try.underlying27 ti_2 rfl rfl rfl rfl hz8) (fun v9 => ?_)
      refine JP_take (i := 4) [0, 1, 2, 3, 4] [] rfl (by kernel_rfl) (by kernel_rfl) (by kernel_rfl) rfl rfl (wants_none rfl) rfl (ex_len_rd 0 Try.underlying27 rfl rfl) ?_
      refine JP_go [0, 1, 2, 3, 4] [] rfl rfl rfl (fun w11 h1_12 hp10 => ?_)
      refine JD_one (i := 5) (by kernel_rfl) ?_
      refine JO_q rfl (wants_none rfl) rfl (ex_min rfl rfl) ?_
      refine JD_take (i := 6) hp10 rfl (by kernel_rfl) (by kernel_rfl) (by kernel_rfl) (wants_none rfl) rfl (ex_assign rfl) ?_
      refine JD_done (by kernel_rfl) ?_
      refine N_then ?_
      refine J_seq ?_
      refine J_region ?_
      refine JL_q (wants_none rfl) rfl (ex_move rfl) ?_
      refine JL_st (wants_none rfl) rfl (st_load_pa_o 3 (opens_sl _) ti_27 rfl rfl) (fun v13 => ?_)
      refine JL_q (wants_none rfl) rfl (ex_move rfl) ?_
      refine JL_q (wants_none rfl) rfl (ex_move rfl) ?_
      refine JL_q (wants_none rfl) rfl (ex_move rfl) ?_
      refine JL_q (wants_none rfl) rfl (ex_add rfl rfl) ?_
      refine JL_q (wants_none rfl) rfl (ex_move rfl) ?_
      refine JL_q (wants_none rfl) rfl (ex_move rfl) ?_
      refine JL_q (wants_none rfl) rfl (ex_add rfl rfl) ?_
      refine JL_bnd fun z14 hz15 => ?_
      refine JL_st (wants_none rfl) rfl (st_slice3 0 Try.underlying27 ti_2 rfl rfl rfl rfl rfl hz15) (fun v16 => ?_)
      refine JL_bnd fun r17 hr18 => ?_
      refine JL_clo (wants_none rfl) rfl hp0 rfl rfl (fun w hh => (hh.rd0 0 rfl)) hr18 ?_
      refine JL_q (wants_none rfl) rfl (ex_not rfl) ?_
      refine JL_nil ?_
      refine N_then ?_
      refine J_if rfl (fun h19 => ?_) (fun h19 => ?_)
      · refine J_ret ?_
        refine N_block_ret ?_
        refine N_then_ret ?_
        refine N_round_ret ?_
        exact N_ret0 (.inl rfl) rfl  (fun w hh => ⟨(), rfl, hh.sel [] rfl⟩)
      · refine J_skip ?_
        refine N_block ?_
        refine N_then ?_
        refine J_region ?_
        refine JL_q (wants_none rfl) rfl (ex_move rfl) ?_
        refine JL_st (wants_none rfl) rfl (st_load_pa_o 6 (opens_int _) ti_3 rfl rfl) (fun _ => ?_)
        refine JL_q (wants_none rfl) rfl (ex_add rfl rfl) ?_
        refine JL_q (wants_none rfl) rfl (ex_assign rfl) ?_
        refine JL_nil ?_
        exact N_next' () ⟨rfl, rfl, rfl, rfl, trivial⟩ [5, 6] rfl rfl
    · refine J_exit ?_
      refine N_then_exit ?_
      exact N_break' () ⟨rfl, rfl, rfl, rfl, trivial⟩ [1, 2] rfl rfl
  · exact N_ret0 (.inr rfl) rfl  (fun w hh => ⟨(), rfl, hh.sel [] rfl⟩)

set_option maxHeartbeats 40000000 in
theorem c_impl_tiler_fill_impl_SolveTiling_1_ind : ∀ (k_ : Nat) (w : World) (b0_ : Nat) (p0 : Gtiler) (v0_0 : Value) (v0_1 : Value) (v0_2 : Value) (b3_ : Nat) (p3 : Bool) (B_ : List Nat) (hB_ : Ctx.owns [.bx b0_ 124 [v0_0, v0_1, v0_2, .int .i64 p0.left], .ow 2 v0_2 p0.places, .bx b3_ 4 [.bool p3]] = B_) (hn_ : PHanded w [.bx b0_ 124 [v0_0, v0_1, v0_2, .int .i64 p0.left], .ow 2 v0_2 p0.places, .bx b3_ 4 [.bool p3]]) (hp0_0 : Rd (fun k => k ∈ B_) w v0_0 p0.list) (hp0_1 : Rd (fun k => k ∈ B_) w v0_1 p0.bottom) (p1 : Int) (r : (Bool × Bool) × ((List Int) × Int × Bool)) (hr : fixN (fun (rec_ : (Gtiler × Int × Bool) → Option ((Bool × Bool) × ((List Int) × Int × Bool))) (a_ : Gtiler × Int × Bool) => F_impl_tiler_fill_impl_SolveTiling_1_step (fun p0 p1 p3 => rec_ (p0, p1, p3)) a_.1 a_.2.1 a_.2.2) k_ (p0, p1, p3) = some r),
    PtrCon Try.prog 76 [.pointer (some ⟨b0_, 0, none⟩), .int .i64 p1, .func (.func 81) #[] #[.pointer (some ⟨b3_, 0, none⟩)]] w B_ (fun x_ : Value => .tuple #[.bool r.1.1, .bool r.1.2]) (fun x_ => [.bx b0_ 124 [v0_0, v0_1, x_, .int .i64 r.2.2.1], .ow 2 x_ r.2.1, .bx b3_ 4 [.bool r.2.2.2]]) := by
  intro k_
  induction k_ with
  | zero => intro w b0_ p0 v0_0 v0_1 v0_2 b3_ p3 B_ hB_ hn_ hp0_0 hp0_1 p1 r hr; cases hr
  | succ k_ ih_ =>
  intro w b0_ p0 v0_0 v0_1 v0_2 b3_ p3 B_ hB_ hn_ hp0_0 hp0_1 p1 r hr
  replace hr : F_impl_tiler_fill_impl_SolveTiling_1_step (fun p0 p1 p3 => fixN (fun (rec_ : (Gtiler × Int × Bool) → Option ((Bool × Bool) × ((List Int) × Int × Bool))) (a_ : Gtiler × Int × Bool) => F_impl_tiler_fill_impl_SolveTiling_1_step (fun p0 p1 p3 => rec_ (p0, p1, p3)) a_.1 a_.2.1 a_.2.2) k_ (p0, p1, p3)) p0 p1 p3 = some r := hr
  refine PtrCon_of (v := fun (r : (Bool × Bool) × ((List Int) × Int × Bool)) (x_ : Value) => .tuple #[.bool r.1.1, .bool r.1.2]) (fs := fun r x_ => [.bx b0_ 124 [v0_0, v0_1, x_, .int .i64 r.2.2.1], .ow 2 x_ r.2.1, .bx b3_ 4 [.bool r.2.2.2]]) Try.func76 rfl Try.ntmps76 rfl (show SH nowhere (bare w) w [.rd v0_1 p0.bottom, .rd v0_0 p0.list, .bx b0_ 124 [v0_0, v0_1, v0_2, .int .i64 p0.left], .ow 2 v0_2 p0.places, .bx b3_ 4 [.bool p3], .tkn (.int .i64 0) (0 : Int) (restL w B_), rest w B_] from (((SH.begin hB_ hn_).cons_apart hB_ hp0_0).cons_apart hB_ hp0_1)) rfl ?_ hr
  unfold F_impl_tiler_fill_impl_SolveTiling_1_step
  refine J_seq ?_
  refine J_region ?_
  refine JL_q (wants_none rfl) rfl (ex_assign rfl) ?_
  refine JL_q (wants_none rfl) rfl (ex_assign rfl) ?_
  refine JL_nil ?_
  refine N_then ?_
  refine J_seq ?_
  refine J_seq ?_
  refine J_region ?_
  refine JL_q (wants_none rfl) rfl (ex_move rfl) ?_
  refine JL_q (wants_none rfl) rfl (ex_move rfl) ?_
  refine JL_q (wants_none rfl) rfl (ex_nilCheck rfl) ?_
  refine JL_q (wants_none rfl) rfl (ex_fieldAddr fi_124_2 rfl rfl) ?_
  refine JL_q (wants_none rfl) rfl (ex_load_bx 2 ti_27 rfl rfl rfl) ?_
  refine JL_q (wants_none rfl) rfl (ex_len_ow 3 Try.underlying27 rfl rfl) ?_
  refine JL_q (wants_none rfl) rfl (ex_eql rfl rfl) ?_
  refine JL_nil ?_
  refine N_then ?_
  refine J_if rfl (fun h1 => ?_) (fun h1 => ?_)
  · refine J_seq ?_
    refine J_region ?_
    refine JL_q (wants_none rfl) rfl (ex_move rfl) ?_
    refine JL_inlinev (args := []) (caps := [.pointer (some ⟨b3_, 0, none⟩)]) (wants_none rfl) rfl Try.call81 rfl rfl Try.func81 rfl Try.ntmps81 rfl rfl (fun K_ hK2 => ?_)
    refine J_seq ?_
    refine J_region ?_
    refine JL_q (wants_none rfl) rfl (ex_assign rfl) ?_
    refine JL_nil ?_
    refine N_then ?_
    refine J_seq ?_
    refine J_region ?_
    refine JL_sk (wants_none rfl) (sk_store_bx' 4 ti_4 rfl rfl (fun w hh => cv_bool) rfl rfl rfl rfl) ?_
    refine JL_nil ?_
    refine N_then ?_
    refine J_seq ?_
    refine J_region ?_
    refine JL_q (wants_none rfl) rfl (ex_assign rfl) ?_
    refine JL_nil ?_
    refine N_then ?_
    refine J_ret ?_
    refine N_inl1 hK2 rfl (rv_tmp rfl) ?_
    refine JL_q (wants_none rfl) rfl (ex_assign rfl) ?_
    refine JL_q (wants_none rfl) rfl (ex_assign rfl) ?_
    refine JL_nil ?_
    refine N_then ?_
    refine J_ret ?_
    refine N_then_ret ?_
    exact N_ret2 rfl (rv_tmp rfl) (rv_tmp rfl) (fun w hh => ⟨v0_2, rfl, hh.sel [2, 3, 4, 5, 6] rfl⟩)
  · refine J_skip ?_
    refine N_then ?_
    refine J_seq ?_
    refine J_region ?_
    refine JL_q (wants_none rfl) rfl (ex_move rfl) ?_
    refine JL_q (wants_none rfl) rfl (ex_nilCheck rfl) ?_
    refine JL_q (wants_none rfl) rfl (ex_fieldAddr fi_124_1 rfl rfl) ?_
    refine JL_q (wants_none rfl) rfl (ex_load_bx 2 ti_27 rfl rfl rfl) ?_
    refine JL_q (wants_none rfl) rfl (ex_len_rd 0 Try.underlying27 rfl rfl) ?_
    refine JL_q (wants_none rfl) rfl (ex_assign rfl) ?_
    refine JL_nil ?_
    refine N_then ?_
    refine J_seq ?_
    refine J_draw [] (by kernel_rfl) ?_
    refine JP_take (i := 0) [0, 1, 2, 3, 4, 5, 6] [] rfl (by kernel_rfl) (by kernel_rfl) (by kernel_rfl) rfl rfl (wants_none rfl) rfl (ex_move rfl) ?_
    refine JP_take (i := 1) [0, 1, 2, 3, 4, 5, 6] [] rfl (by kernel_rfl) (by kernel_rfl) (by kernel_rfl) rfl rfl (wants_none rfl) rfl (ex_nilCheck rfl) ?_
    refine JP_take (i := 2) [0, 1, 2, 3, 4, 5, 6] [] rfl (by kernel_rfl) (by kernel_rfl) (by kernel_rfl) rfl rfl (wants_none rfl) rfl (ex_fieldAddr fi_124_1 rfl rfl) ?_
    refine JP_take (i := 3) [0, 1, 2, 3, 4, 5, 6] [] rfl (by kernel_rfl) (by kernel_rfl) (by kernel_rfl) rfl rfl (wants_none rfl) rfl (ex_load_bx 2 ti_27 rfl rfl rfl) ?_
    refine JP_take (i := 4) [0, 1, 2, 3, 4, 5, 6] [] rfl (by kernel_rfl) (by kernel_rfl) (by kernel_rfl) rfl rfl (wants_none rfl) rfl (ex_move rfl) ?_
    refine JP_take (i := 5) [0, 1, 2, 3, 4, 5, 6] [] rfl (by kernel_rfl) (by kernel_rfl) (by kernel_rfl) rfl rfl (wants_none rfl) rfl (ex_move rfl) ?_
    refine JP_bnd fun u3 hu4 => ?_
    refine JP_take (i := 6) [0, 1, 2, 3, 4, 5, 6] [] rfl (by kernel_rfl) (by kernel_rfl) (by kernel_rfl) rfl rfl (wants_none rfl) rfl (ex_rem rfl rfl (nz_ne hu4)) ?_
    refine JP_bnd fun y5 hy6 => ?_
    refine JP_sq (i := 7) [] rfl (by kernel_rfl) (by kernel_rfl) (by kernel_rfl) rfl (wants_none rfl) rfl (sq_index 0 Try.underlying27 ti_2 rfl rfl rfl hy6) (fun q7 => ?_)
    refine JP_sq (i := 8) [] rfl (by kernel_rfl) (by kernel_rfl) (by kernel_rfl) rfl (wants_none rfl) rfl (sq_load_pt_o 0 (opens_int _) ti_2 rfl rfl) (fun _ => ?_)
    refine JP_take (i := 9) [0, 1, 2, 3, 4, 5, 6, 7] [] rfl (by kernel_rfl) (by kernel_rfl) (by kernel_rfl) rfl rfl (wants_none rfl) rfl (ex_assign rfl) ?_
    refine JP_take (i := 10) [0, 1, 2, 3, 4, 5, 6, 7] [] rfl (by kernel_rfl) (by kernel_rfl) (by kernel_rfl) rfl rfl (wants_none rfl) rfl (ex_assign rfl) ?_
    refine JP_go [] [] rfl rfl rfl (fun _ _ _ => ?_)
    refine JD_done (by kernel_rfl) ?_
    refine N_then ?_
    refine J_seq ?_
    refine J_cut' (S' := Int) (G' := Unit) (fun s9 _ => [(0, .pointer (some ⟨b0_, 0, none⟩)), (1, .int .i64 p1), (2, .func (.func 81) #[] #[.pointer (some ⟨b3_, 0, none⟩)]), (8, .int .i64 (p0.bottom.length : Int)), (9, .int .i64 s9), (10, .int .i64 y5)]) (fun s9 _ => [rest w B_, .rd v0_0 p0.list, .rd v0_1 p0.bottom, .ow 2 v0_2 p0.places, .bx b0_ 124 [v0_0, v0_1, v0_2, .int .i64 p0.left], .bx b3_ 4 [.bool p3], .tkn (.int .i64 0) (0 : Int) (restL w B_)]) ?_ (fun s9 g10 => ?_)
    · refine J_seq ?_
      refine J_region ?_
      refine JL_q (wants_none rfl) rfl (ex_move rfl) ?_
      refine JL_q (wants_none rfl) rfl (ex_move rfl) ?_
      refine JL_bnd fun u11 hu12 => ?_
      refine JL_q (wants_none rfl) rfl (ex_rem rfl rfl (nz_ne hu12)) ?_
      refine JL_q (wants_none rfl) rfl (ex_gtr rfl rfl) ?_
      refine JL_nil ?_
      refine N_then ?_
      refine J_if rfl (fun h13 => ?_) (fun h13 => ?_)
      · refine J_draw [4] (by kernel_rfl) ?_
        refine JP_take (i := 0) [0, 1, 2, 3, 5, 6, 7] [4] rfl (by kernel_rfl) (by kernel_rfl) (by kernel_rfl) rfl rfl (wants_none rfl) rfl (ex_move rfl) ?_
        refine JP_take (i := 1) [0, 1, 2, 3, 5, 6, 7] [4] rfl (by kernel_rfl) (by kernel_rfl) (by kernel_rfl) rfl rfl (wants_none rfl) rfl (ex_nilCheck rfl) ?_
        refine JP_take (i := 2) [0, 1, 2, 3, 5, 6, 7] [4] rfl (by kernel_rfl) (by kernel_rfl) (by kernel_rfl) rfl rfl (wants_none rfl) rfl (ex_fieldAddr fi_124_0 rfl rfl) ?_
        refine JP_take (i := 3) [0, 1, 2, 3, 5, 6, 7] [4] rfl (by kernel_rfl) (by kernel_rfl) (by kernel_rfl) rfl rfl (wants_none rfl) rfl (ex_load_bx 3 ti_57 rfl rfl rfl) ?_
        refine JP_take (i := 4) [0, 1, 2, 3, 5, 6, 7] [4] rfl (by kernel_rfl) (by kernel_rfl) (by kernel_rfl) rfl rfl (wants_none rfl) rfl (ex_move rfl) ?_
        refine JP_take (i := 5) [0, 1, 2, 3, 5, 6, 7] [4] rfl (by kernel_rfl) (by kernel_rfl) (by kernel_rfl) rfl rfl (wants_none rfl) rfl (ex_nilCheck rfl) ?_
        refine JP_take (i := 6) [0, 1, 2, 3, 5, 6, 7] [4] rfl (by kernel_rfl) (by kernel_rfl) (by kernel_rfl) rfl rfl (wants_none rfl) rfl (ex_fieldAddr fi_124_2 rfl rfl) ?_
        refine JP_take (i := 7) [0, 1, 2, 3, 5, 6, 7] [4] rfl (by kernel_rfl) (by kernel_rfl) (by kernel_rfl) rfl rfl (wants_none rfl) rfl (ex_load_bx 3 ti_27 rfl rfl rfl) ?_
        refine JP_take (i := 8) [0, 1, 2, 3, 5, 6, 7] [4] rfl (by kernel_rfl) (by kernel_rfl) (by kernel_rfl) rfl rfl (wants_none rfl) rfl (ex_move rfl) ?_
        refine JP_take (i := 9) [0, 1, 2, 3, 5, 6, 7] [4] rfl (by kernel_rfl) (by kernel_rfl) (by kernel_rfl) rfl rfl (wants_none rfl) rfl (ex_sub rfl rfl) ?_
        refine JP_bnd fun y14 hy15 => ?_
        refine JP_ow_open (v := v0_2) 4 rfl hy15 ?_; rintro b16 cap17 rfl
        refine JP_take (i := 10) [0, 1, 2, 3, 5, 6, 7] [4] rfl (by kernel_rfl) (by kernel_rfl) (by kernel_rfl) rfl rfl (wants_none rfl) rfl (ex_index_own Try.underlying27 ti_2 rfl rfl hy15 (by first | rfl | simp)) ?_
        refine JP_go [0, 1, 2, 3, 5, 6, 7] [4] rfl rfl rfl (fun w19 h1_20 hp18 => ?_)
        refine JD_one (i := 11) (by kernel_rfl) ?_
        refine JO_q rfl (wants_none rfl) rfl (ex_load_ow_int 4 ti_2 rfl rfl hy15) ?_
        refine JD_bnd fun y22 hy23 => ?_
        refine JD_sq (i := 12) (fs := fun q24 => [.pt q24 y22]) [4] h1_20 rfl rfl (by kernel_rfl) (by kernel_rfl) (by kernel_rfl) (wants_none rfl) rfl (sq_index 2 Try.underlying57 ti_108 rfl rfl rfl hy23) (fun _ => rfl) (fun q24 h1_25 => ?_)
        refine JD_sq (i := 13) (fs := fun q26 => [.pt q26 y22.Right]) [5] h1_25 rfl rfl (by kernel_rfl) (by kernel_rfl) (by kernel_rfl) (wants_none rfl) rfl (sq_field_pt 0 (GTile.at_Right _) fi_108_2 rfl rfl rfl) (fun _ => rfl) (fun q26 h1_27 => ?_)
        refine JD_sq (i := 14) [6] h1_27 rfl rfl (by kernel_rfl) (by kernel_rfl) (by kernel_rfl) (wants_none rfl) rfl (sq_load_pt_o 0 (opens_int _) ti_2 rfl rfl) (fun _ => rfl) (fun _ h1_29 => ?_)
        refine JD_take (i := 15) hp18 rfl (by kernel_rfl) (by kernel_rfl) (by kernel_rfl) (wants_none rfl) rfl (ex_assign rfl) ?_
        refine JD_done (by kernel_rfl) ?_
        exact N_meet' () ⟨rfl, rfl, rfl, rfl, rfl, rfl, trivial⟩ [9, 4, 3, 6, 5, 7, 8] rfl rfl
      · refine J_skip ?_
        exact N_meet' () ⟨rfl, rfl, rfl, rfl, rfl, rfl, trivial⟩ [7, 2, 1, 4, 3, 5, 6] rfl rfl
    · refine N_then ?_
      refine J_seq ?_
      refine J_cut' (S' := Int) (G' := Unit) (fun s30 _ => [(0, .pointer (some ⟨b0_, 0, none⟩)), (1, .int .i64 p1), (2, .func (.func 81) #[] #[.pointer (some ⟨b3_, 0, none⟩)]), (8, .int .i64 (p0.bottom.length : Int)), (9, .int .i64 s9), (10, .int .i64 s30)]) (fun s30 _ => [rest w B_, .rd v0_0 p0.list, .rd v0_1 p0.bottom, .ow 2 v0_2 p0.places, .bx b0_ 124 [v0_0, v0_1, v0_2, .int .i64 p0.left], .bx b3_ 4 [.bool p3], .tkn (.int .i64 0) (0 : Int) (restL w B_)]) ?_ (fun s30 g31 => ?_)
      · refine J_seq ?_
        refine J_region ?_
        refine JL_q (wants_none rfl) rfl (ex_move rfl) ?_
        refine JL_q (wants_none rfl) rfl (ex_move rfl) ?_
        refine JL_q (wants_none rfl) rfl (ex_geq rfl rfl) ?_
        refine JL_nil ?_
        refine N_then ?_
        refine J_if rfl (fun h32 => ?_) (fun h32 => ?_)
        · refine J_draw [3] (by kernel_rfl) ?_
          refine JP_take (i := 0) [0, 1, 2, 4, 5, 6] [3] rfl (by kernel_rfl) (by kernel_rfl) (by kernel_rfl) rfl rfl (wants_none rfl) rfl (ex_move rfl) ?_
          refine JP_take (i := 1) [0, 1, 2, 4, 5, 6] [3] rfl (by kernel_rfl) (by kernel_rfl) (by kernel_rfl) rfl rfl (wants_none rfl) rfl (ex_nilCheck rfl) ?_
          refine JP_take (i := 2) [0, 1, 2, 4, 5, 6] [3] rfl (by kernel_rfl) (by kernel_rfl) (by kernel_rfl) rfl rfl (wants_none rfl) rfl (ex_fieldAddr fi_124_0 rfl rfl) ?_
          refine JP_take (i := 3) [0, 1, 2, 4, 5, 6] [3] rfl (by kernel_rfl) (by kernel_rfl) (by kernel_rfl) rfl rfl (wants_none rfl) rfl (ex_load_bx 3 ti_57 rfl rfl rfl) ?_
          refine JP_take (i := 4) [0, 1, 2, 4, 5, 6] [3] rfl (by kernel_rfl) (by kernel_rfl) (by kernel_rfl) rfl rfl (wants_none rfl) rfl (ex_move rfl) ?_
          refine JP_take (i := 5) [0, 1, 2, 4, 5, 6] [3] rfl (by kernel_rfl) (by kernel_rfl) (by kernel_rfl) rfl rfl (wants_none rfl) rfl (ex_nilCheck rfl) ?_
          refine JP_take (i := 6) [0, 1, 2, 4, 5, 6] [3] rfl (by kernel_rfl) (by kernel_rfl) (by kernel_rfl) rfl rfl (wants_none rfl) rfl (ex_fieldAddr fi_124_2 rfl rfl) ?_
          refine JP_take (i := 7) [0, 1, 2, 4, 5, 6] [3] rfl (by kernel_rfl) (by kernel_rfl) (by kernel_rfl) rfl rfl (wants_none rfl) rfl (ex_load_bx 3 ti_27 rfl rfl rfl) ?_
          refine JP_take (i := 8) [0, 1, 2, 4, 5, 6] [3] rfl (by kernel_rfl) (by kernel_rfl) (by kernel_rfl) rfl rfl (wants_none rfl) rfl (ex_move rfl) ?_
          refine JP_take (i := 9) [0, 1, 2, 4, 5, 6] [3] rfl (by kernel_rfl) (by kernel_rfl) (by kernel_rfl) rfl rfl (wants_none rfl) rfl (ex_move rfl) ?_
          refine JP_take (i := 10) [0, 1, 2, 4, 5, 6] [3] rfl (by kernel_rfl) (by kernel_rfl) (by kernel_rfl) rfl rfl (wants_none rfl) rfl (ex_sub rfl rfl) ?_
          refine JP_bnd fun y33 hy34 => ?_
          refine JP_ow_open (v := v0_2) 3 rfl hy34 ?_; rintro b35 cap36 rfl
          refine JP_take (i := 11) [0, 1, 2, 4, 5, 6] [3] rfl (by kernel_rfl) (by kernel_rfl) (by kernel_rfl) rfl rfl (wants_none rfl) rfl (ex_index_own Try.underlying27 ti_2 rfl rfl hy34 (by first | rfl | simp)) ?_
          refine JP_go [0, 1, 2, 4, 5, 6] [3] rfl rfl rfl (fun w38 h1_39 hp37 => ?_)
          refine JD_one (i := 12) (by kernel_rfl) ?_
          refine JO_q rfl (wants_none rfl) rfl (ex_load_ow_int 3 ti_2 rfl rfl hy34) ?_
          refine JD_bnd fun y41 hy42 => ?_
          refine JD_sq (i := 13) (fs := fun q43 => [.pt q43 y41]) [3] h1_39 rfl rfl (by kernel_rfl) (by kernel_rfl) (by kernel_rfl) (wants_none rfl) rfl (sq_index 1 Try.underlying57 ti_108 rfl rfl rfl hy42) (fun _ => rfl) (fun q43 h1_44 => ?_)
          refine JD_sq (i := 14) (fs := fun q45 => [.pt q45 y41.Top]) [4] h1_44 rfl rfl (by kernel_rfl) (by kernel_rfl) (by kernel_rfl) (wants_none rfl) rfl (sq_field_pt 0 (GTile.at_Top _) fi_108_3 rfl rfl rfl) (fun _ => rfl) (fun q45 h1_46 => ?_)
          refine JD_sq (i := 15) [5] h1_46 rfl rfl (by kernel_rfl) (by kernel_rfl) (by kernel_rfl) (wants_none rfl) rfl (sq_load_pt_o 0 (opens_int _) ti_2 rfl rfl) (fun _ => rfl) (fun _ h1_48 => ?_)
          refine JD_take (i := 16) hp37 rfl (by kernel_rfl) (by kernel_rfl) (by kernel_rfl) (wants_none rfl) rfl (ex_assign rfl) ?_
          refine JD_done (by kernel_rfl) ?_
          exact N_meet' () ⟨rfl, rfl, rfl, rfl, rfl, rfl, trivial⟩ [2, 3, 4, 5, 6, 7, 8] rfl rfl
        · refine J_skip ?_
          exact N_meet' () ⟨rfl, rfl, rfl, rfl, rfl, rfl, trivial⟩ [0, 1, 2, 3, 4, 5, 6] rfl rfl
      · refine N_then ?_
        refine J_seq ?_
        refine J_seq ?_
        refine J_region ?_
        refine JL_q (wants_none rfl) rfl (ex_move rfl) ?_
        refine JL_q (wants_none rfl) rfl (ex_nilCheck rfl) ?_
        refine JL_q (wants_none rfl) rfl (ex_fieldAddr fi_124_0 rfl rfl) ?_
        refine JL_q (wants_none rfl) rfl (ex_load_bx 4 ti_57 rfl rfl rfl) ?_
        refine JL_q (wants_none rfl) rfl (ex_len_rd 1 Try.underlying57 rfl rfl) ?_
        refine JL_q (wants_none rfl) rfl (ex_move rfl) ?_
        refine JL_nil ?_
        refine N_then ?_
        refine J_loop' (S := (List Int) × Int × Bool × Int) (G := Value) (F_impl_tiler_fill_impl_SolveTiling_1_L1 p0 p1 (fun p0 p1 p3 => fixN (fun (rec_ : (Gtiler × Int × Bool) → Option ((Bool × Bool) × ((List Int) × Int × Bool))) (a_ : Gtiler × Int × Bool) => F_impl_tiler_fill_impl_SolveTiling_1_step (fun p0 p1 p3 => rec_ (p0, p1, p3)) a_.1 a_.2.1 a_.2.2) k_ (p0, p1, p3)) s9 s30) (fun s49 g50 => [(0, .pointer (some ⟨b0_, 0, none⟩)), (1, .int .i64 p1), (2, .func (.func 81) #[] #[.pointer (some ⟨b3_, 0, none⟩)]), (8, .int .i64 (p0.bottom.length : Int)), (9, .int .i64 s9), (10, .int .i64 s30), (79, v0_0), (80, .int .i64 (p0.list.length : Int)), (81, .int .i64 s49.2.2.2)]) (fun s49 g50 => [rest w B_, .rd v0_0 p0.list, .rd v0_1 p0.bottom, .ow 2 g50 s49.1, .bx b0_ 124 [v0_0, v0_1, g50, .int .i64 s49.2.1], .bx b3_ 4 [.bool s49.2.2.1], .tkn (.int .i64 0) (0 : Int) (restL w B_)]) (p0.places, p0.left, p3, 0) v0_2 ⟨rfl, rfl, rfl, rfl, rfl, rfl, rfl, rfl, rfl, trivial⟩ [0, 1, 2, 3, 4, 5, 6] rfl rfl (fun s49 g50 => ?_) (fun s49 g50 => ?_)
        · unfold F_impl_tiler_fill_impl_SolveTiling_1_L1
          refine J_seq ?_
          refine J_region ?_
          refine JL_q (wants_none rfl) rfl (ex_lss rfl rfl) ?_
          refine JL_nil ?_
          refine N_then ?_
          refine J_seq ?_
          refine J_if rfl (fun h51 => ?_) (fun h51 => ?_)
          · refine J_skip ?_
            refine N_then ?_
            refine J_seq ?_
            refine J_block ?_
            refine J_seq ?_
            refine J_region ?_
            refine JL_q (wants_none rfl) rfl (ex_move rfl) ?_
            refine JL_bnd fun y52 hy53 => ?_
            refine JL_st (wants_none rfl) rfl (st_index 1 Try.underlying57 ti_108 rfl rfl rfl hy53) (fun q54 => ?_)
            refine JL_st (wants_none rfl) rfl (st_load_pt_o 0 (GTile.opens _) ti_108 rfl rfl) (fun _ => ?_)
            refine JL_st (wants_none rfl) rfl (st_alloc zi_108 rfl) (fun b56 => ?_)
            refine JL_q (wants_none rfl) rfl (ex_assign rfl) ?_
            refine JL_sk (wants_none rfl) (sk_store_bx' 0 ti_108 rfl rfl (fun w hh => (cv_aggs ⟨cv_int, cv_int, cv_int, cv_int, trivial⟩)) rfl rfl rfl rfl) ?_
            refine JL_nil ?_
            refine N_then ?_
            refine J_seq ?_
            refine J_seq ?_
            refine J_draw [] (by kernel_rfl) ?_
            refine JP_take (i := 0) [0, 1, 2, 3, 4, 5, 6, 7, 8] [] rfl (by kernel_rfl) (by kernel_rfl) (by kernel_rfl) rfl rfl (wants_none rfl) rfl (ex_load_bx_agg 0 ti_108 rfl rfl rfl rfl) ?_
            refine JP_take (i := 1) [0, 1, 2, 3, 4, 5, 6, 7, 8] [] rfl (by kernel_rfl) (by kernel_rfl) (by kernel_rfl) rfl rfl (wants_none rfl) rfl (ex_move rfl) ?_
            refine JP_take (i := 2) [0, 1, 2, 3, 4, 5, 6, 7, 8] [] rfl (by kernel_rfl) (by kernel_rfl) (by kernel_rfl) rfl rfl (wants_none rfl) rfl (ex_move rfl) ?_
            refine JP_take (i := 3) [0, 1, 2, 3, 4, 5, 6, 7, 8] [] rfl (by kernel_rfl) (by kernel_rfl) (by kernel_rfl) rfl rfl (wants_none rfl) rfl (ex_move rfl) ?_
            refine JP_take (i := 4) [0, 1, 2, 3, 4, 5, 6, 7, 8] [] rfl (by kernel_rfl) (by kernel_rfl) (by kernel_rfl) rfl rfl (wants_none rfl) rfl (ex_move rfl) ?_
            refine JP_bnd fun u57 hu58 => ?_
            refine JP_take (i := 5) [0, 1, 2, 3, 4, 5, 6, 7, 8] [] rfl (by kernel_rfl) (by kernel_rfl) (by kernel_rfl) rfl rfl (wants_none rfl) rfl (ex_rem rfl rfl (nz_ne hu58)) ?_
            refine JP_take (i := 6) [0, 1, 2, 3, 4, 5, 6, 7, 8] [] rfl (by kernel_rfl) (by kernel_rfl) (by kernel_rfl) rfl rfl (wants_none rfl) rfl (ex_move rfl) ?_
            refine JP_take (i := 7) [0, 1, 2, 3, 4, 5, 6, 7, 8] [] rfl (by kernel_rfl) (by kernel_rfl) (by kernel_rfl) rfl rfl (wants_none rfl) rfl (ex_sub rfl rfl) ?_
            refine JP_take (i := 8) [0, 1, 2, 3, 4, 5, 6, 7, 8] [] rfl (by kernel_rfl) (by kernel_rfl) (by kernel_rfl) rfl rfl (wants_none rfl) rfl (ex_eql rfl rfl) ?_
            refine JP_go [0, 1, 2, 3, 4, 5, 6, 7, 8] [] rfl rfl rfl (fun w60 h1_61 hp59 => ?_)
            refine JD_bnd fun r62 hr63 => ?_
            refine JD_one (i := 9) (by kernel_rfl) ?_
            refine JO_call rfl (wants_none rfl) rfl Try.call126 rfl (Ca_of0 fun w hh => c_impl_fitsAt _ w (fun _ hk => hk.elim) _ _ (GTile.rdmk (Rd.mk_int _ _ _) (Rd.mk_int _ _ _) (Rd.mk_int _ _ _) (Rd.mk_int _ _ _)) _ _ _ _ hr63) (fun _ => ?_)
            refine JD_take (i := 10) hp59 rfl (by kernel_rfl) (by kernel_rfl) (by kernel_rfl) (wants_none rfl) rfl (ex_not rfl) ?_
            refine JD_done (by kernel_rfl) ?_
            refine N_then ?_
            refine J_if rfl (fun h64 => ?_) (fun h64 => ?_)
            · refine J_exit ?_
              refine N_then_exit ?_
              refine N_block_exit ?_
              refine N_then ?_
              refine J_region ?_
              refine JL_q (wants_none rfl) rfl (ex_add rfl rfl) ?_
              refine JL_q (wants_none rfl) rfl (ex_move rfl) ?_
              refine JL_nil ?_
              exact N_next' g50 ⟨rfl, rfl, rfl, rfl, rfl, rfl, rfl, rfl, rfl, trivial⟩ [2, 3, 4, 5, 6, 7, 8] rfl rfl
            · refine J_skip ?_
              refine N_then ?_
              refine J_seq ?_
              refine J_seq ?_
              refine J_region ?_
              refine JL_q (wants_none rfl) rfl (ex_move rfl) ?_
              refine JL_q (wants_none rfl) rfl (ex_nilCheck rfl) ?_
              refine JL_q (wants_none rfl) rfl (ex_fieldAddr fi_124_3 rfl rfl) ?_
              refine JL_q (wants_none rfl) rfl (ex_load_bx 6 ti_2 rfl rfl rfl) ?_
              refine JL_q (wants_none rfl) rfl (ex_eql rfl rfl) ?_
              refine JL_nil ?_
              refine N_then ?_
              refine J_if rfl (fun h65 => ?_) (fun h65 => ?_)
              · refine J_seq ?_
                refine J_region ?_
                refine JL_q (wants_none rfl) rfl (ex_assign rfl) ?_
                refine JL_q (wants_none rfl) rfl (ex_assign rfl) ?_
                refine JL_nil ?_
                refine N_then ?_
                refine J_ret ?_
                refine N_then_ret ?_
                refine N_block_ret ?_
                refine N_then_ret ?_
                refine N_round_ret ?_
                refine N_then_ret ?_
                exact N_ret2 rfl (rv_tmp rfl) (rv_tmp rfl) (fun w hh => ⟨g50, rfl, hh.sel [6, 5, 7, 8, 2] rfl⟩)
              · refine J_skip ?_
                refine N_then ?_
                refine J_seq ?_
                refine J_region ?_
                refine JL_q (wants_none rfl) rfl (ex_move rfl) ?_
                refine JL_q (wants_none rfl) rfl (ex_nilCheck rfl) ?_
                refine JL_q (wants_none rfl) rfl (ex_fieldAddr fi_124_3 rfl rfl) ?_
                refine JL_q (wants_none rfl) rfl (ex_load_bx 6 ti_2 rfl rfl rfl) ?_
                refine JL_q (wants_none rfl) rfl (ex_sub rfl rfl) ?_
                refine JL_q (wants_none rfl) rfl (ex_nilCheck rfl) ?_
                refine JL_q (wants_none rfl) rfl (ex_fieldAddr fi_124_3 rfl rfl) ?_
                refine JL_sk (wants_none rfl) (sk_store_bx' 6 ti_2 rfl rfl (fun w hh => cv_int) rfl rfl rfl rfl) ?_
                refine JL_nil ?_
                refine N_then ?_
                refine J_seq ?_
                refine J_region ?_
                refine JL_q (wants_none rfl) rfl (ex_move rfl) ?_
                refine JL_q (wants_none rfl) rfl (ex_nilCheck rfl) ?_
                refine JL_q (wants_none rfl) rfl (ex_fieldAddr fi_124_2 rfl rfl) ?_
                refine JL_q (wants_none rfl) rfl (ex_load_bx 6 ti_27 rfl rfl rfl) ?_
                refine JL_q (wants_none rfl) rfl (ex_move rfl) ?_
                refine JL_q (wants_none rfl) rfl (ex_move rfl) ?_
                refine JL_bnd fun y66 hy67 => ?_
                refine JL_ow_open (v := g50) 5 rfl hy67 ?_; rintro b68 cap69 rfl
                refine JL_q (wants_none rfl) rfl (ex_index_ow 5 Try.underlying27 ti_2 rfl rfl rfl hy67) ?_
                refine JL_sk (wants_none rfl) (sk_store_ow 5 ti_2 rfl rfl rfl hy67 (fun w hh => (Rd.mk_int _ _ _))) ?_
                refine JL_nil ?_
                refine N_then ?_
                refine J_seq ?_
                refine J_region ?_
                refine JL_q (wants_none rfl) rfl (ex_move rfl) ?_
                refine JL_q (wants_none rfl) rfl (ex_move rfl) ?_
                refine JL_q (wants_none rfl) rfl (ex_add rfl rfl) ?_
                refine JL_q (wants_none rfl) rfl (ex_move rfl) ?_
                refine JL_bnd fun r70 hr71 => ?_
                refine JL_callT (wants_none rfl) rfl Try.call76 rfl (CaT_of [6, 5, 7] [0, 1, 2, 3, 4, 8] rfl rfl (fun _ => rfl) fun w hh => ih_ w b0_ (⟨p0.list, p0.bottom, (s49.1.set p1.toNat s49.2.2.2), (w64 (s49.2.1 - 1))⟩ : Gtiler) v0_0 v0_1 (.slice (some ⟨b68, 0, none⟩) s49.1.length cap69) b3_ s49.2.2.1 _ rfl (hh.handed [6, 5, 7] rfl rfl rfl rfl) (hh.apart [6, 5, 7] rfl (hh.rd 3 rfl)) (hh.apart [6, 5, 7] rfl (hh.rd 4 rfl)) _ _ hr71) (fun x72 => ?_)
                refine JL_q (wants_none rfl) rfl (ex_move rfl) ?_
                refine JL_q (wants_none rfl) rfl (ex_extract rfl rfl) ?_
                refine JL_q (wants_none rfl) rfl (ex_extract rfl rfl) ?_
                refine JL_q (wants_none rfl) rfl (ex_assign rfl) ?_
                refine JL_q (wants_none rfl) rfl (ex_assign rfl) ?_
                refine JL_nil ?_
                refine N_then ?_
                refine J_seq ?_
                refine J_region ?_
                refine JL_q (wants_none rfl) rfl (ex_move rfl) ?_
                refine JL_q (wants_none rfl) rfl (ex_not rfl) ?_
                refine JL_nil ?_
                refine N_then ?_
                refine J_if rfl (fun h73 => ?_) (fun h73 => ?_)
                · refine J_seq ?_
                  refine J_region ?_
                  refine JL_q (wants_none rfl) rfl (ex_move rfl) ?_
                  refine JL_q (wants_none rfl) rfl (ex_assign rfl) ?_
                  refine JL_q (wants_none rfl) rfl (ex_assign rfl) ?_
                  refine JL_nil ?_
                  refine N_then ?_
                  refine J_ret ?_
                  refine N_block_ret ?_
                  refine N_then_ret ?_
                  refine N_round_ret ?_
                  refine N_then_ret ?_
                  exact N_ret2 rfl (rv_tmp rfl) (rv_tmp rfl) (fun w hh => ⟨x72, rfl, hh.sel [0, 1, 2, 8, 5] rfl⟩)
                · refine J_skip ?_
                  refine N_block ?_
                  refine N_then ?_
                  refine J_region ?_
                  refine JL_q (wants_none rfl) rfl (ex_add rfl rfl) ?_
                  refine JL_q (wants_none rfl) rfl (ex_move rfl) ?_
                  refine JL_nil ?_
                  exact N_next' x72 ⟨rfl, rfl, rfl, rfl, rfl, rfl, rfl, rfl, rfl, trivial⟩ [5, 6, 7, 1, 0, 2, 8] rfl rfl
          · refine J_exit ?_
            refine N_then_exit ?_
            exact N_break' g50 ⟨rfl, rfl, rfl, rfl, rfl, rfl, rfl, rfl, rfl, trivial⟩ [0, 1, 2, 3, 4, 5, 6] rfl rfl
        · refine N_then ?_
          refine J_seq ?_
          refine J_region ?_
          refine JL_q (wants_none rfl) rfl (ex_assign rfl) ?_
          refine JL_q (wants_none rfl) rfl (ex_assign rfl) ?_
          refine JL_nil ?_
          refine N_then ?_
          refine J_ret ?_
          exact N_ret2 rfl (rv_tmp rfl) (rv_tmp rfl) (fun w hh => ⟨g50, rfl, hh.sel [4, 3, 5, 6, 0] rfl⟩)
theorem c_impl_tiler_fill_impl_SolveTiling_1 (w : World) (b0_ : Nat) (p0 : Gtiler) (v0_0 : Value) (v0_1 : Value) (v0_2 : Value) (b3_ : Nat) (p3 : Bool) (B_ : List Nat) (hB_ : Ctx.owns [.bx b0_ 124 [v0_0, v0_1, v0_2, .int .i64 p0.left], .ow 2 v0_2 p0.places, .bx b3_ 4 [.bool p3]] = B_) (hn_ : PHanded w [.bx b0_ 124 [v0_0, v0_1, v0_2, .int .i64 p0.left], .ow 2 v0_2 p0.places, .bx b3_ 4 [.bool p3]]) (hp0_0 : Rd (fun k => k ∈ B_) w v0_0 p0.list) (hp0_1 : Rd (fun k => k ∈ B_) w v0_1 p0.bottom) (p1 : Int) (r : (Bool × Bool) × ((List Int) × Int × Bool)) (hr : F_impl_tiler_fill_impl_SolveTiling_1 p0 p1 p3 = some r) :
    PtrCon Try.prog 76 [.pointer (some ⟨b0_, 0, none⟩), .int .i64 p1, .func (.func 81) #[] #[.pointer (some ⟨b3_, 0, none⟩)]] w B_ (fun x_ : Value => .tuple #[.bool r.1.1, .bool r.1.2]) (fun x_ => [.bx b0_ 124 [v0_0, v0_1, x_, .int .i64 r.2.2.1], .ow 2 x_ r.2.1, .bx b3_ 4 [.bool r.2.2.2]]) := by
  obtain ⟨k_, hk_⟩ := fixR_some hr
  exact c_impl_tiler_fill_impl_SolveTiling_1_ind k_ w b0_ p0 v0_0 v0_1 v0_2 b3_ p3 B_ hB_ hn_ hp0_0 hp0_1 p1 r hk_

set_option maxHeartbeats 40000000 in
theorem c_impl_SolveTiling (A : Nat → Prop) (w : World) (hA : ∀ k, A k → k < w.heap.size) (v0_ : Value) (p0 : (List GTile)) (hp0 : Rd A w v0_ p0) (v1_ : Value) (p1 : (List Int)) (hp1 : Rd A w v1_ p1) (p2 : Int) (p3 : Int) (r : (List (List Int)) × Int) (hr : F_impl_SolveTiling p0 p1 p2 p3 = some r) :
    Con Try.prog 28 [v0_, v1_, .int .i64 p2, .int .i64 p3] A w (fun x_ : Value × List Nat => .tuple #[x_.1, .int .i64 r.2]) (fun x_ => [.od 27 x_.1 r.1 x_.2]) := by
  refine Con_of (v := fun (r : (List (List Int)) × Int) (x_ : Value × List Nat) => .tuple #[x_.1, .int .i64 r.2]) (fs := fun r x_ => [.od 27 x_.1 r.1 x_.2]) Try.func28 rfl Try.ntmps28 rfl (((SH.start hA).start_rd rfl hp0).start_rd rfl hp1) rfl ?_ hr
  unfold F_impl_SolveTiling
  refine J_seq ?_
  refine J_region ?_
  refine JL_q (wants_none rfl) rfl (ex_assign rfl) ?_
  refine JL_q (wants_none rfl) rfl (ex_assign rfl) ?_
  refine JL_nil ?_
  refine N_then ?_
  refine J_seq ?_
  refine J_region ?_
  refine JL_q (wants_none rfl) rfl (ex_move rfl) ?_
  refine JL_q (wants_none rfl) rfl (ex_move rfl) ?_
  refine JL_q (wants_none rfl) rfl (ex_move rfl) ?_
  refine JL_q (wants_none rfl) rfl (ex_move rfl) ?_
  refine JL_inline (wants_none rfl) rfl Try.call75 rfl Try.func75 rfl Try.ntmps75 rfl rfl (fun K_ hK1 => ?_)
  refine J_seq ?_
  refine J_region ?_
  refine JL_q (wants_none rfl) rfl (ex_assign rfl) ?_
  refine JL_q (wants_none rfl) rfl (ex_assign rfl) ?_
  refine JL_nil ?_
  refine N_then ?_
  refine J_seq ?_
  refine J_seq ?_
  refine J_region ?_
  refine JL_q (wants_none rfl) rfl (ex_move rfl) ?_
  refine JL_bnd fun r2 hr3 => ?_
  refine JL_call (wants_none rfl) rfl Try.call27 rfl (Ca_of0 fun w hh => c_impl_ValidTiles _ w (fun _ hk => hk.elim) _ _ (hh.rd0 1 rfl) _ hr3) (fun _ => ?_)
  refine JL_q (wants_none rfl) rfl (ex_not rfl) ?_
  refine JL_nil ?_
  refine N_then ?_
  refine J_if rfl (fun h4 => ?_) (fun h4 => ?_)
  · refine J_seq ?_
    refine J_region ?_
    refine JL_q (wants_none rfl) rfl (ex_assign rfl) ?_
    refine JL_q (wants_none rfl) rfl (ex_assign rfl) ?_
    refine JL_nil ?_
    refine N_then ?_
    refine J_ret ?_
    refine N_then_ret ?_
    refine N_inl2 hK1 rfl (rv_tmp rfl) (rv_tmp rfl) ?_
    refine JL_q (wants_none rfl) rfl (ex_move rfl) ?_
    refine JL_q (wants_none rfl) rfl (ex_extract rfl rfl) ?_
    refine JL_q (wants_none rfl) rfl (ex_extract rfl rfl) ?_
    refine JL_q (wants_none rfl) rfl (ex_assign rfl) ?_
    refine JL_q (wants_none rfl) rfl (ex_assign rfl) ?_
    refine JL_nil ?_
    refine N_then ?_
    refine J_seq ?_
    refine J_seq ?_
    refine J_region ?_
    refine JL_q (wants_none rfl) rfl (ex_move rfl) ?_
    refine JL_q (wants_none rfl) rfl (ex_neq rfl rfl) ?_
    refine JL_nil ?_
    refine N_then ?_
    refine J_if_true rfl (by decide) ?_
    refine J_seq ?_
    refine J_region ?_
    refine JL_q (wants_none rfl) rfl (ex_move rfl) ?_
    refine JL_q (wants_none rfl) rfl (ex_assign rfl) ?_
    refine JL_q (wants_none rfl) rfl (ex_assign rfl) ?_
    refine JL_nil ?_
    refine N_then ?_
    refine J_ret ?_
    refine N_then_ret ?_
    refine N_ctx (fun w hh => SH.od_nil (α := (List Int)) 27 hh) ?_
    exact N_ret2 rfl (rv_tmp rfl) (rv_tmp rfl) (fun w hh => ⟨((.slice none 0 0 : Value), ([] : List Nat)), rfl, hh.sel [0] rfl⟩)
  · refine J_skip ?_
    refine N_then ?_
    refine J_seq ?_
    refine J_seq ?_
    refine J_region ?_
    refine JL_q (wants_none rfl) rfl (ex_move rfl) ?_
    refine JL_bnd fun r5 hr6 => ?_
    refine JL_call (wants_none rfl) rfl Try.call86 rfl (Ca_of0 fun w hh => c_impl_isFrame _ w (fun _ hk => hk.elim) _ _ (hh.rd0 0 rfl) _ hr6) (fun _ => ?_)
    refine JL_q (wants_none rfl) rfl (ex_not rfl) ?_
    refine JL_q (wants_none rfl) rfl (ex_move rfl) ?_
    refine JL_cond (fun h7 => ?_) (fun h7 => ?_)
    · refine JL_passed rfl rfl rfl h7 ?_
      refine JL_passed rfl rfl rfl h7 ?_
      refine JL_passed rfl rfl rfl h7 ?_
      refine JL_q (wants_none rfl) rfl (ex_pick_true rfl h7 rfl) ?_
      refine JL_q (wants_none rfl) rfl (ex_move rfl) ?_
      refine JL_passed rfl rfl rfl rfl ?_
      refine JL_passed rfl rfl rfl rfl ?_
      refine JL_passed rfl rfl rfl rfl ?_
      refine JL_q (wants_none rfl) rfl (ex_pick_true rfl rfl rfl) ?_
      refine JL_nil ?_
      refine N_then ?_
      refine J_if_true rfl rfl ?_
      refine J_seq ?_
      refine J_region ?_
      refine JL_q (wants_none rfl) rfl (ex_assign rfl) ?_
      refine JL_q (wants_none rfl) rfl (ex_assign rfl) ?_
      refine JL_nil ?_
      refine N_then ?_
      refine J_ret ?_
      refine N_then_ret ?_
      refine N_inl2 hK1 rfl (rv_tmp rfl) (rv_tmp rfl) ?_
      refine JL_q (wants_none rfl) rfl (ex_move rfl) ?_
      refine JL_q (wants_none rfl) rfl (ex_extract rfl rfl) ?_
      refine JL_q (wants_none rfl) rfl (ex_extract rfl rfl) ?_
      refine JL_q (wants_none rfl) rfl (ex_assign rfl) ?_
      refine JL_q (wants_none rfl) rfl (ex_assign rfl) ?_
      refine JL_nil ?_
      refine N_then ?_
      refine J_seq ?_
      refine J_seq ?_
      refine J_region ?_
      refine JL_q (wants_none rfl) rfl (ex_move rfl) ?_
      refine JL_q (wants_none rfl) rfl (ex_neq rfl rfl) ?_
      refine JL_nil ?_
      refine N_then ?_
      refine J_if_true rfl (by decide) ?_
      refine J_seq ?_
      refine J_region ?_
      refine JL_q (wants_none rfl) rfl (ex_move rfl) ?_
      refine JL_q (wants_none rfl) rfl (ex_assign rfl) ?_
      refine JL_q (wants_none rfl) rfl (ex_assign rfl) ?_
      refine JL_nil ?_
      refine N_then ?_
      refine J_ret ?_
      refine N_then_ret ?_
      refine N_ctx (fun w hh => SH.od_nil (α := (List Int)) 27 hh) ?_
      exact N_ret2 rfl (rv_tmp rfl) (rv_tmp rfl) (fun w hh => ⟨((.slice none 0 0 : Value), ([] : List Nat)), rfl, hh.sel [0] rfl⟩)
    · refine JL_q (wants_some rfl rfl rfl h7) rfl (ex_move rfl) ?_
      refine JL_bnd fun r8 hr9 => ?_
      refine JL_call (wants_some rfl rfl rfl h7) rfl Try.call44 rfl (Ca_of0 fun w hh => c_impl_within _ w (fun _ hk => hk.elim) _ _ _ _ hr9) (fun _ => ?_)
      refine JL_q (wants_some rfl rfl rfl h7) rfl (ex_not rfl) ?_
      refine JL_q (wants_none rfl) rfl (ex_pick_false rfl h7 rfl) ?_
      refine JL_q (wants_none rfl) rfl (ex_move rfl) ?_
      refine JL_cond (fun h10 => ?_) (fun h10 => ?_)
      · refine JL_passed rfl rfl rfl h10 ?_
        refine JL_passed rfl rfl rfl h10 ?_
        refine JL_passed rfl rfl rfl h10 ?_
        refine JL_q (wants_none rfl) rfl (ex_pick_true rfl h10 rfl) ?_
        refine JL_nil ?_
        refine N_then ?_
        refine J_if_true rfl rfl ?_
        refine J_seq ?_
        refine J_region ?_
        refine JL_q (wants_none rfl) rfl (ex_assign rfl) ?_
        refine JL_q (wants_none rfl) rfl (ex_assign rfl) ?_
        refine JL_nil ?_
        refine N_then ?_
        refine J_ret ?_
        refine N_then_ret ?_
        refine N_inl2 hK1 rfl (rv_tmp rfl) (rv_tmp rfl) ?_
        refine JL_q (wants_none rfl) rfl (ex_move rfl) ?_
        refine JL_q (wants_none rfl) rfl (ex_extract rfl rfl) ?_
        refine JL_q (wants_none rfl) rfl (ex_extract rfl rfl) ?_
        refine JL_q (wants_none rfl) rfl (ex_assign rfl) ?_
        refine JL_q (wants_none rfl) rfl (ex_assign rfl) ?_
        refine JL_nil ?_
        refine N_then ?_
        refine J_seq ?_
        refine J_seq ?_
        refine J_region ?_
        refine JL_q (wants_none rfl) rfl (ex_move rfl) ?_
        refine JL_q (wants_none rfl) rfl (ex_neq rfl rfl) ?_
        refine JL_nil ?_
        refine N_then ?_
        refine J_if_true rfl (by decide) ?_
        refine J_seq ?_
        refine J_region ?_
        refine JL_q (wants_none rfl) rfl (ex_move rfl) ?_
        refine JL_q (wants_none rfl) rfl (ex_assign rfl) ?_
        refine JL_q (wants_none rfl) rfl (ex_assign rfl) ?_
        refine JL_nil ?_
        refine N_then ?_
        refine J_ret ?_
        refine N_then_ret ?_
        refine N_ctx (fun w hh => SH.od_nil (α := (List Int)) 27 hh) ?_
        exact N_ret2 rfl (rv_tmp rfl) (rv_tmp rfl) (fun w hh => ⟨((.slice none 0 0 : Value), ([] : List Nat)), rfl, hh.sel [0] rfl⟩)
      · refine JL_q (wants_some rfl rfl rfl h10) rfl (ex_move rfl) ?_
        refine JL_bnd fun r11 hr12 => ?_
        refine JL_call (wants_some rfl rfl rfl h10) rfl Try.call125 rfl (Ca_of0 fun w hh => c_impl_budgetOk _ w (fun _ hk => hk.elim) _ _ hr12) (fun _ => ?_)
        refine JL_q (wants_some rfl rfl rfl h10) rfl (ex_not rfl) ?_
        refine JL_q (wants_none rfl) rfl (ex_pick_false rfl h10 rfl) ?_
        refine JL_nil ?_
        refine N_then ?_
        refine J_if rfl (fun h13 => ?_) (fun h13 => ?_)
        · refine J_seq ?_
          refine J_region ?_
          refine JL_q (wants_none rfl) rfl (ex_assign rfl) ?_
          refine JL_q (wants_none rfl) rfl (ex_assign rfl) ?_
          refine JL_nil ?_
          refine N_then ?_
          refine J_ret ?_
          refine N_then_ret ?_
          refine N_inl2 hK1 rfl (rv_tmp rfl) (rv_tmp rfl) ?_
          refine JL_q (wants_none rfl) rfl (ex_move rfl) ?_
          refine JL_q (wants_none rfl) rfl (ex_extract rfl rfl) ?_
          refine JL_q (wants_none rfl) rfl (ex_extract rfl rfl) ?_
          refine JL_q (wants_none rfl) rfl (ex_assign rfl) ?_
          refine JL_q (wants_none rfl) rfl (ex_assign rfl) ?_
          refine JL_nil ?_
          refine N_then ?_
          refine J_seq ?_
          refine J_seq ?_
          refine J_region ?_
          refine JL_q (wants_none rfl) rfl (ex_move rfl) ?_
          refine JL_q (wants_none rfl) rfl (ex_neq rfl rfl) ?_
          refine JL_nil ?_
          refine N_then ?_
          refine J_if_true rfl (by decide) ?_
          refine J_seq ?_
          refine J_region ?_
          refine JL_q (wants_none rfl) rfl (ex_move rfl) ?_
          refine JL_q (wants_none rfl) rfl (ex_assign rfl) ?_
          refine JL_q (wants_none rfl) rfl (ex_assign rfl) ?_
          refine JL_nil ?_
          refine N_then ?_
          refine J_ret ?_
          refine N_then_ret ?_
          refine N_ctx (fun w hh => SH.od_nil (α := (List Int)) 27 hh) ?_
          exact N_ret2 rfl (rv_tmp rfl) (rv_tmp rfl) (fun w hh => ⟨((.slice none 0 0 : Value), ([] : List Nat)), rfl, hh.sel [0] rfl⟩)
        · refine J_skip ?_
          refine N_then ?_
          refine J_seq ?_
          refine J_region ?_
          refine JL_q (wants_none rfl) rfl (ex_move rfl) ?_
          refine JL_q (wants_none rfl) rfl (ex_move rfl) ?_
          refine JL_q (wants_none rfl) rfl (ex_move rfl) ?_
          refine JL_bnd fun r14 hr15 => ?_
          refine JL_call (wants_none rfl) rfl Try.call87 rfl (Ca_of0 fun w hh => c_impl_size_int64 _ w (fun _ hk => hk.elim) _ _ (hh.rd0 0 rfl) _ hr15) (fun _ => ?_)
          refine JL_q (wants_none rfl) rfl (ex_move rfl) ?_
          refine JL_q (wants_none rfl) rfl (ex_mul rfl rfl) ?_
          refine JL_bnd fun z16 hz17 => ?_
          refine JL_st (wants_none rfl) rfl (st_make (α := Int) Try.underlying27 ti_2 zi_2 bi_2 rfl (fun _ _ => zero_int) rfl hz17) (fun b18 => ?_)
          refine JL_q (wants_none rfl) rfl (ex_move rfl) ?_
          refine JL_q (wants_none rfl) rfl (ex_build si_124 rfl (.cons fi_124_0 rfl rfl (.cons fi_124_1 rfl rfl (.cons fi_124_2 rfl rfl (.cons fi_124_3 rfl rfl .nil)))) (fun w hh => ⟨(hh.cv 2 rfl), (hh.cv 1 rfl), (hh.cv_ow 0 rfl), cv_int, trivial⟩)) ?_
          refine JL_st (wants_none rfl) rfl (st_box' rfl (fun w hh => (cv_aggs ⟨(hh.cv 2 rfl), (hh.cv 1 rfl), (hh.cv_ow 0 rfl), cv_int, trivial⟩))) (fun b19 => ?_)
          refine JL_q (wants_none rfl) rfl (ex_assign rfl) ?_
          refine JL_q (wants_none rfl) rfl (ex_assign rfl) ?_
          refine JL_nil ?_
          refine N_then ?_
          refine J_ret ?_
          refine N_inl2 hK1 rfl (rv_tmp rfl) (rv_tmp rfl) ?_
          refine JL_q (wants_none rfl) rfl (ex_move rfl) ?_
          refine JL_q (wants_none rfl) rfl (ex_extract rfl rfl) ?_
          refine JL_q (wants_none rfl) rfl (ex_extract rfl rfl) ?_
          refine JL_q (wants_none rfl) rfl (ex_assign rfl) ?_
          refine JL_q (wants_none rfl) rfl (ex_assign rfl) ?_
          refine JL_nil ?_
          refine N_then ?_
          refine J_seq ?_
          refine J_seq ?_
          refine J_region ?_
          refine JL_q (wants_none rfl) rfl (ex_move rfl) ?_
          refine JL_q (wants_none rfl) rfl (ex_neq rfl rfl) ?_
          refine JL_nil ?_
          refine N_then ?_
          refine J_if_false rfl (by decide) ?_
          refine J_skip ?_
          refine N_then ?_
          refine J_seq ?_
          refine J_region ?_
          refine JL_st (wants_none rfl) rfl (st_alloc zi_4 rfl) (fun b20 => ?_)
          refine JL_sk (wants_none rfl) (sk_store_bx' 0 ti_4 rfl rfl (fun w hh => cv_bool) rfl rfl rfl rfl) ?_
          refine JL_nil ?_
          refine N_then ?_
          refine J_seq ?_
          refine J_region ?_
          refine JL_q (wants_none rfl) rfl (ex_move rfl) ?_
          refine JL_q (wants_none rfl) rfl (ex_makeFunc rfl) ?_
          refine JL_bnd fun r21 hr22 => ?_
          refine JL_callT (wants_none rfl) rfl Try.call76 rfl (CaT_of [1, 2, 0] [3, 4] rfl rfl (fun _ => rfl) fun w hh => c_impl_tiler_fill_impl_SolveTiling_1 w b19 (⟨p0, p1, z16, p3⟩ : Gtiler) v0_ v1_ (.slice (some ⟨b18, 0, none⟩) z16.length z16.length) b20 false _ rfl (hh.handed [1, 2, 0] rfl rfl rfl rfl) (hh.apart [1, 2, 0] rfl (hh.rd 4 rfl)) (hh.apart [1, 2, 0] rfl (hh.rd 3 rfl)) _ _ hr22) (fun x23 => ?_)
          refine JL_q (wants_none rfl) rfl (ex_move rfl) ?_
          refine JL_q (wants_none rfl) rfl (ex_extract rfl rfl) ?_
          refine JL_q (wants_none rfl) rfl (ex_extract rfl rfl) ?_
          refine JL_q (wants_none rfl) rfl (ex_assign rfl) ?_
          refine JL_q (wants_none rfl) rfl (ex_assign rfl) ?_
          refine JL_nil ?_
          refine N_then ?_
          refine J_seq ?_
          refine J_block ?_
          refine J_seq ?_
          refine J_region ?_
          refine JL_q (wants_none rfl) rfl (ex_move rfl) ?_
          refine JL_q (wants_none rfl) rfl (ex_not rfl) ?_
          refine JL_q (wants_none rfl) rfl (ex_assign rfl) ?_
          refine JL_nil ?_
          refine N_then ?_
          refine J_if rfl (fun h24 => ?_) (fun h24 => ?_)
          · refine J_seq ?_
            refine J_region ?_
            refine JL_q (wants_none rfl) rfl (ex_assign rfl) ?_
            refine JL_q (wants_none rfl) rfl (ex_assign rfl) ?_
            refine JL_nil ?_
            refine N_then ?_
            refine J_ret ?_
            refine N_block_ret ?_
            refine N_then_ret ?_
            refine N_ctx (fun w hh => SH.od_nil (α := (List Int)) 27 hh) ?_
            exact N_ret2 rfl (rv_tmp rfl) (rv_tmp rfl) (fun w hh => ⟨((.slice none 0 0 : Value), ([] : List Nat)), rfl, hh.sel [0] rfl⟩)
          · refine J_seq ?_
            refine J_region ?_
            refine JL_q (wants_none rfl) rfl (ex_load_bx 2 ti_4 rfl rfl rfl) ?_
            refine JL_q (wants_none rfl) rfl (ex_not rfl) ?_
            refine JL_q (wants_none rfl) rfl (ex_assign rfl) ?_
            refine JL_nil ?_
            refine N_then ?_
            refine J_if rfl (fun h25 => ?_) (fun h25 => ?_)
            · refine J_seq ?_
              refine J_region ?_
              refine JL_q (wants_none rfl) rfl (ex_assign rfl) ?_
              refine JL_q (wants_none rfl) rfl (ex_assign rfl) ?_
              refine JL_nil ?_
              refine N_then ?_
              refine J_ret ?_
              refine N_block_ret ?_
              refine N_then_ret ?_
              refine N_ctx (fun w hh => SH.od_nil (α := (List Int)) 27 hh) ?_
              exact N_ret2 rfl (rv_tmp rfl) (rv_tmp rfl) (fun w hh => ⟨((.slice none 0 0 : Value), ([] : List Nat)), rfl, hh.sel [0] rfl⟩)
            · refine J_skip ?_
              refine N_block ?_
              refine N_then ?_
              refine J_seq ?_
              refine J_region ?_
              refine JL_st (wants_none rfl) rfl (st_buildSlice_od (vs := []) (B := ([] : List Nat)) ([] : List (List Int)) [] Try.underlying41 ti_27 zi_27 rfl rfl rfl rfl rfl (fun w hh => dwv_nil)) (fun b26 => ?_)
              refine JL_st (wants_none rfl) rfl (st_alloc zi_41 rfl) (fun b27 => ?_)
              refine JL_sk (wants_none rfl) (sk_store_bx' 0 ti_41 rfl rfl (fun w hh => (hh.cv_od 1 rfl)) rfl rfl rfl rfl) ?_
              refine JL_nil ?_
              refine N_then ?_
              refine J_seq ?_
              refine J_seq ?_
              refine J_region ?_
              refine JL_q (wants_none rfl) rfl (ex_move rfl) ?_
              refine JL_q (wants_none rfl) rfl (ex_nilCheck rfl) ?_
              refine JL_q (wants_none rfl) rfl (ex_fieldAddr fi_124_2 rfl rfl) ?_
              refine JL_q (wants_none rfl) rfl (ex_load_bx 2 ti_27 rfl rfl rfl) ?_
              refine JL_q (wants_none rfl) rfl (ex_move rfl) ?_
              refine JL_q (wants_none rfl) rfl (ex_len_rd 5 Try.underlying27 rfl rfl) ?_
              refine JL_inline (wants_none rfl) rfl Try.call82 rfl Try.func82 rfl Try.ntmps82 rfl rfl (fun K_ hK28 => ?_)
              refine J_seq ?_
              refine J_region ?_
              refine JL_st (wants_none rfl) rfl (st_box' rfl (fun w hh => (hh.cv_ow 3 rfl))) (fun b29 => ?_)
              refine JL_st (wants_none rfl) rfl (st_box' rfl (fun w hh => cv_int)) (fun b30 => ?_)
              refine JL_q (wants_none rfl) rfl (ex_assign rfl) ?_
              refine JL_nil ?_
              refine N_then ?_
              refine J_seq ?_
              refine J_seq ?_
              refine J_region ?_
              refine JL_q (wants_none rfl) rfl (ex_load_bx 0 ti_3 rfl rfl rfl) ?_
              refine JL_q (wants_none rfl) rfl (ex_lss rfl rfl) ?_
              refine JL_nil ?_
              refine N_then ?_
              refine J_if rfl (fun h31 => ?_) (fun h31 => ?_)
              · refine J_region ?_
                exact JL_none
              · refine J_skip ?_
                refine N_then ?_
                refine J_seq ?_
                refine J_region ?_
                refine JL_q (wants_none rfl) rfl (ex_makeFunc rfl) ?_
                refine JL_q (wants_none rfl) rfl (ex_assign rfl) ?_
                refine JL_nil ?_
                refine N_then ?_
                refine J_ret ?_
                refine N_inl1 hK28 rfl (rv_tmp rfl) ?_
                refine JL_nil ?_
                refine N_then ?_
                refine J_block ?_
                refine J_rangef (lb := [.pointer (some ⟨b29, 0, none⟩), .pointer (some ⟨b30, 0, none⟩)]) [] rfl Try.call127 Try.func127 rfl Try.ntmps127 rfl rfl (fun l_32 D_33 L_34 K_36 hL35 hK37 => ?_)
                refine J_seq ?_
                refine J_region ?_
                refine JL_q (wants_none rfl) rfl (ex_assign rfl) ?_
                refine JL_nil ?_
                refine N_then ?_
                refine J_ctx (fun w hh => hh.tokf 7 rfl rfl) ?_
                refine J_loop' (S := Int × (List (List Int))) (G := Value × List Nat) (F_impl_SolveTiling_L1 p1 r21) (fun s38 g39 => [(0, .func (.yield l_32) #[] #[]), (1, .pointer (some ⟨b29, 0, none⟩)), (2, .pointer (some ⟨b30, 0, none⟩)), (4, .int .i64 s38.1)]) (fun s38 g39 => [lpF l_32 L_34 [] 0, dfF D_33, .rd x23 r21.2.1, .tkn x23 r21.2.1 ((x23 : Value).ownBlock.toList ++ []), .bx b29 27 [x23], .bx b30 3 [.int .i64 (p1.length : Int)], .od 27 g39.1 s38.2 g39.2, .bx b27 41 [g39.1]]) (0, ([] : List (List Int))) ((.slice (some ⟨b26, 0, none⟩) 0 0), ([] : List Nat)) ⟨rfl, rfl, rfl, rfl, trivial⟩ [1, 2, 8, 0, 4, 3, 6, 5] rfl rfl (fun s38 g39 => ?_) (fun s38 g39 => ?_)
                · obtain ⟨g39_0, g39_1⟩ := g39
                  unfold F_impl_SolveTiling_L1
                  refine J_seq ?_
                  refine J_seq ?_
                  refine J_region ?_
                  refine JL_q (wants_none rfl) rfl (ex_move rfl) ?_
                  refine JL_q (wants_none rfl) rfl (ex_load_bx 4 ti_27 rfl rfl rfl) ?_
                  refine JL_q (wants_none rfl) rfl (ex_len_rd 2 Try.underlying27 rfl rfl) ?_
                  refine JL_q (wants_none rfl) rfl (ex_lss rfl rfl) ?_
                  refine JL_nil ?_
                  refine N_then ?_
                  refine J_if rfl (fun h40 => ?_) (fun h40 => ?_)
                  · refine J_skip ?_
                    refine N_then ?_
                    refine J_seq ?_
                    refine J_block ?_
                    refine J_seq ?_
                    refine J_draw [] (by kernel_rfl) ?_
                    refine JP_take (i := 0) [0, 1, 2, 3, 4, 5, 6, 7] [] rfl (by kernel_rfl) (by kernel_rfl) (by kernel_rfl) rfl rfl (wants_none rfl) rfl (ex_load_bx 5 ti_3 rfl rfl rfl) ?_
                    refine JP_take (i := 1) [0, 1, 2, 3, 4, 5, 6, 7] [] rfl (by kernel_rfl) (by kernel_rfl) (by kernel_rfl) rfl rfl (wants_none rfl) rfl (ex_load_bx 4 ti_27 rfl rfl rfl) ?_
                    refine JP_take (i := 2) [0, 1, 2, 3, 4, 5, 6, 7] [] rfl (by kernel_rfl) (by kernel_rfl) (by kernel_rfl) rfl rfl (wants_none rfl) rfl (ex_move rfl) ?_
                    refine JP_bnd fun z41 hz42 => ?_
                    refine JP_sq (i := 3) [] rfl (by kernel_rfl) (by kernel_rfl) (by kernel_rfl) rfl (wants_none rfl) rfl (sq_slice 2 Try.underlying27 ti_2 rfl rfl rfl rfl hz42) (fun v43 => ?_)
                    refine JP_take (i := 4) [0, 1, 2, 3, 4, 5, 6, 7, 8] [] rfl (by kernel_rfl) (by kernel_rfl) (by kernel_rfl) rfl rfl (wants_none rfl) rfl (ex_len_rd 0 Try.underlying27 rfl rfl) ?_
                    refine JP_go [0, 1, 2, 3, 4, 5, 6, 7, 8] [] rfl rfl rfl (fun w45 h1_46 hp44 => ?_)
                    refine JD_one (i := 5) (by kernel_rfl) ?_
                    refine JO_q rfl (wants_none rfl) rfl (ex_min rfl rfl) ?_
                    refine JD_take (i := 6) hp44 rfl (by kernel_rfl) (by kernel_rfl) (by kernel_rfl) (wants_none rfl) rfl (ex_assign rfl) ?_
                    refine JD_done (by kernel_rfl) ?_
                    refine N_then ?_
                    refine J_seq ?_
                    refine J_regionY 10 ?_
                    refine JL_q (wants_none rfl) rfl (ex_move rfl) ?_
                    refine JL_q (wants_none rfl) rfl (ex_load_bx 5 ti_27 rfl rfl rfl) ?_
                    refine JL_q (wants_none rfl) rfl (ex_move rfl) ?_
                    refine JL_q (wants_none rfl) rfl (ex_move rfl) ?_
                    refine JL_q (wants_none rfl) rfl (ex_move rfl) ?_
                    refine JL_q (wants_none rfl) rfl (ex_add rfl rfl) ?_
                    refine JL_q (wants_none rfl) rfl (ex_move rfl) ?_
                    refine JL_q (wants_none rfl) rfl (ex_move rfl) ?_
                    refine JL_q (wants_none rfl) rfl (ex_add rfl rfl) ?_
                    refine JL_bnd fun z47 hz48 => ?_
                    refine JL_st (wants_none rfl) rfl (st_slice3 3 Try.underlying27 ti_2 rfl rfl rfl rfl rfl hz48) (fun v49 => ?_)
                    refine JL_nil ?_
                    refine N_yield rfl (wants_none rfl) rfl rfl rfl 2 rfl hL35 rfl rfl rfl (fun KY_50 hKY51 => ?_)
                    refine J_regionR rfl ?_
                    refine JL_q (wants_none rfl) rfl (ex_assign rfl) ?_
                    refine JL_nil ?_
                    refine N_begin 2 rfl rfl ?_
                    refine J_block ?_
                    refine J_drawR [8, 9] (by kernel_rfl) (by kernel_rfl) ?_
                    refine JP_take (i := 1) [0, 1, 2, 3, 4, 5, 6, 7] [8, 9] rfl (by kernel_rfl) (by kernel_rfl) (by kernel_rfl) rfl rfl (wants_none rfl) rfl (ex_move rfl) ?_
                    refine JP_go [0, 1, 2, 3, 4, 5, 6, 7] [8, 9] rfl rfl rfl (fun w53 h1_54 hp52 => ?_)
                    refine JD_bnd fun r55 hr56 => ?_
                    refine JD_two (i := 0) (j := 2) (by kernel_rfl) ?_ ?_
                    · refine JO_q rfl (wants_none rfl) rfl (ex_load_bx 9 ti_41 rfl rfl rfl) ?_
                      refine JD_one (i := 2) (by kernel_rfl) ?_
                      refine JO_call rfl (wants_none rfl) rfl Try.call42 rfl (Ca_self (fun _ => rfl) fun w hh => c_slices_Clone_Sint64_int64 _ w (fun _ hk => hk.elim) _ _ (hh.rd0 0 rfl) _ hr56) (fun x57 => ?_)
                      refine JD_one (i := 3) (by kernel_rfl) ?_
                      refine JO_ctx (fun w hh => hh.tokf 0 rfl rfl) (tokf_owns (i := 0) rfl) ?_
                      refine JO_st rfl (wants_none rfl) rfl (st_buildSlice_od (vs := [x57]) (B := (((x57 : Value).ownBlock.toList ++ []) ++ [])) ([r55] : List (List Int)) [0] Try.underlying41 ti_27 zi_27 rfl rfl rfl rfl rfl (fun w hh => (dwv_cons (hh.dw 0 rfl) dwv_nil))) (fun _ hk => nomatch hk) (fun b58 => ?_)
                      refine JD_bnd fun z59 hz60 => ?_
                      refine JD_one (i := 4) (by kernel_rfl) ?_
                      refine JO_st rfl (wants_none rfl) rfl (st_append_od 11 0 Try.underlying41 ti_27 zi_27 rfl bi_27 rfl rfl rfl rfl rfl rfl hz60) (sub_od 0 rfl) (fun v61 => ?_)
                      refine JD_one (i := 5) (by kernel_rfl) ?_
                      refine JO_sk rfl (wants_none rfl) (sk_store_bx' 12 ti_41 rfl rfl (fun w hh => (hh.cv_od 11 rfl)) rfl rfl rfl rfl) (sub_bx 1 rfl) ?_
                      refine JD_done (by kernel_rfl) ?_
                      refine N_block ?_
                      refine N_endRound (js := []) 0 true rfl rfl 5 rfl hKY51 ?_
                      refine JL_q (wants_none rfl) rfl (ex_not rfl) ?_
                      refine JL_nil ?_
                      refine N_then ?_
                      refine J_if_false rfl rfl ?_
                      refine J_skip ?_
                      refine N_block ?_
                      refine N_then ?_
                      refine J_region ?_
                      refine JL_q (wants_none rfl) rfl (ex_move rfl) ?_
                      refine JL_q (wants_none rfl) rfl (ex_load_bx 10 ti_3 rfl rfl rfl) ?_
                      refine JL_q (wants_none rfl) rfl (ex_add rfl rfl) ?_
                      refine JL_q (wants_none rfl) rfl (ex_assign rfl) ?_
                      refine JL_nil ?_
                      exact N_next' (v61, (g39_1 ++ (((x57 : Value).ownBlock.toList ++ []) ++ []))) ⟨rfl, rfl, rfl, rfl, trivial⟩ [5, 6, 7, 8, 9, 10, 11, 12] rfl rfl
                    · refine JO_call rfl (wants_none rfl) rfl Try.call42 rfl (Ca_self (fun _ => rfl) fun w hh => c_slices_Clone_Sint64_int64 _ w (fun _ hk => hk.elim) _ _ (hh.rd0 0 rfl) _ hr56) (fun x62 => ?_)
                      refine JD_two (i := 0) (j := 3) (by kernel_rfl) ?_ ?_
                      · refine JO_q rfl (wants_none rfl) rfl (ex_load_bx 10 ti_41 rfl rfl rfl) ?_
                        refine JD_one (i := 3) (by kernel_rfl) ?_
                        refine JO_ctx (fun w hh => hh.tokf 0 rfl rfl) (tokf_owns (i := 0) rfl) ?_
                        refine JO_st rfl (wants_none rfl) rfl (st_buildSlice_od (vs := [x62]) (B := (((x62 : Value).ownBlock.toList ++ []) ++ [])) ([r55] : List (List Int)) [0] Try.underlying41 ti_27 zi_27 rfl rfl rfl rfl rfl (fun w hh => (dwv_cons (hh.dw 0 rfl) dwv_nil))) (fun _ hk => nomatch hk) (fun b63 => ?_)
                        refine JD_bnd fun z64 hz65 => ?_
                        refine JD_one (i := 4) (by kernel_rfl) ?_
                        refine JO_st rfl (wants_none rfl) rfl (st_append_od 11 0 Try.underlying41 ti_27 zi_27 rfl bi_27 rfl rfl rfl rfl rfl rfl hz65) (sub_od 0 rfl) (fun v66 => ?_)
                        refine JD_one (i := 5) (by kernel_rfl) ?_
                        refine JO_sk rfl (wants_none rfl) (sk_store_bx' 12 ti_41 rfl rfl (fun w hh => (hh.cv_od 11 rfl)) rfl rfl rfl rfl) (sub_bx 1 rfl) ?_
                        refine JD_done (by kernel_rfl) ?_
                        refine N_block ?_
                        refine N_endRound (js := []) 0 true rfl rfl 5 rfl hKY51 ?_
                        refine JL_q (wants_none rfl) rfl (ex_not rfl) ?_
                        refine JL_nil ?_
                        refine N_then ?_
                        refine J_if_false rfl rfl ?_
                        refine J_skip ?_
                        refine N_block ?_
                        refine N_then ?_
                        refine J_region ?_
                        refine JL_q (wants_none rfl) rfl (ex_move rfl) ?_
                        refine JL_q (wants_none rfl) rfl (ex_load_bx 10 ti_3 rfl rfl rfl) ?_
                        refine JL_q (wants_none rfl) rfl (ex_add rfl rfl) ?_
                        refine JL_q (wants_none rfl) rfl (ex_assign rfl) ?_
                        refine JL_nil ?_
                        exact N_next' (v66, (g39_1 ++ (((x62 : Value).ownBlock.toList ++ []) ++ []))) ⟨rfl, rfl, rfl, rfl, trivial⟩ [5, 6, 7, 8, 9, 10, 11, 12] rfl rfl
                      · refine JO_ctx (fun w hh => hh.tokf 0 rfl rfl) (tokf_owns (i := 0) rfl) ?_
                        refine JO_st rfl (wants_none rfl) rfl (st_buildSlice_od (vs := [x62]) (B := (((x62 : Value).ownBlock.toList ++ []) ++ [])) ([r55] : List (List Int)) [0] Try.underlying41 ti_27 zi_27 rfl rfl rfl rfl rfl (fun w hh => (dwv_cons (hh.dw 0 rfl) dwv_nil))) (fun _ hk => nomatch hk) (fun b67 => ?_)
                        refine JD_one (i := 0) (by kernel_rfl) ?_
                        refine JO_q rfl (wants_none rfl) rfl (ex_load_bx 12 ti_41 rfl rfl rfl) ?_
                        refine JD_bnd fun z68 hz69 => ?_
                        refine JD_one (i := 4) (by kernel_rfl) ?_
                        refine JO_st rfl (wants_none rfl) rfl (st_append_od 11 0 Try.underlying41 ti_27 zi_27 rfl bi_27 rfl rfl rfl rfl rfl rfl hz69) (sub_od 0 rfl) (fun v70 => ?_)
                        refine JD_one (i := 5) (by kernel_rfl) ?_
                        refine JO_sk rfl (wants_none rfl) (sk_store_bx' 12 ti_41 rfl rfl (fun w hh => (hh.cv_od 11 rfl)) rfl rfl rfl rfl) (sub_bx 1 rfl) ?_
                        refine JD_done (by kernel_rfl) ?_
                        refine N_block ?_
                        refine N_endRound (js := []) 0 true rfl rfl 5 rfl hKY51 ?_
                        refine JL_q (wants_none rfl) rfl (ex_not rfl) ?_
                        refine JL_nil ?_
                        refine N_then ?_
                        refine J_if_false rfl rfl ?_
                        refine J_skip ?_
                        refine N_block ?_
                        refine N_then ?_
                        refine J_region ?_
                        refine JL_q (wants_none rfl) rfl (ex_move rfl) ?_
                        refine JL_q (wants_none rfl) rfl (ex_load_bx 10 ti_3 rfl rfl rfl) ?_
                        refine JL_q (wants_none rfl) rfl (ex_add rfl rfl) ?_
                        refine JL_q (wants_none rfl) rfl (ex_assign rfl) ?_
                        refine JL_nil ?_
                        exact N_next' (v70, (g39_1 ++ (((x62 : Value).ownBlock.toList ++ []) ++ []))) ⟨rfl, rfl, rfl, rfl, trivial⟩ [5, 6, 7, 8, 9, 10, 11, 12] rfl rfl
                  · refine J_exit ?_
                    refine N_then_exit ?_
                    exact N_break' (g39_0, g39_1) ⟨rfl, rfl, rfl, rfl, trivial⟩ [0, 1, 2, 3, 4, 5, 6, 7] rfl rfl
                · obtain ⟨g39_0, g39_1⟩ := g39
                  refine N_inlF 0 .normal (.inr rfl) hK37 rfl rfl 0 rfl ?_
                  refine N_block ?_
                  refine N_then ?_
                  refine J_seq ?_
                  refine J_region ?_
                  refine JL_q (wants_none rfl) rfl (ex_load_bx 7 ti_41 rfl rfl rfl) ?_
                  refine JL_q (wants_none rfl) rfl (ex_assign rfl) ?_
                  refine JL_q (wants_none rfl) rfl (ex_assign rfl) ?_
                  refine JL_nil ?_
                  refine N_then ?_
                  refine J_ret ?_
                  refine N_take 1 (.inl rfl) rfl ?_
                  exact N_ret2 rfl (rv_tmp rfl) (rv_tmp rfl) (fun w hh => ⟨(g39_0, g39_1), rfl, hh.sel [6] rfl⟩)

set_option maxHeartbeats 40000000 in
theorem c_impl_configOfRow_1 (A : Nat → Prop) (w : World) (hA : ∀ k, A k → k < w.heap.size) (p0 : Int) (v1_ : Value) (p1 : GMachine) (hp1 : RdA A w.heap.size w v1_ p1) (r : Bool) (hr : F_impl_configOfRow_1 p0 p1 = some r) :
    Con Try.prog 130 [.int .i64 p0, v1_] A w (fun x_ : Unit => .bool r) (fun x_ => []) := by
  refine Con_of (v := fun (r : Bool) (x_ : Unit) => .bool r) (fs := fun r x_ => []) Try.func130 rfl Try.ntmps130 rfl ((SH.start hA).start_pa' rfl hp1) rfl ?_ hr
  unfold F_impl_configOfRow_1
  refine J_seq ?_
  refine J_region ?_
  refine JL_q (wants_none rfl) rfl (ex_assign rfl) ?_
  refine JL_nil ?_
  refine N_then ?_
  refine J_seq ?_
  refine J_region ?_
  refine JL_q (wants_none rfl) rfl (ex_move rfl) ?_
  refine JL_st (wants_none rfl) rfl (st_field_pa 0 (GMachine.at_Symbols _) fi_26_0 rfl rfl rfl) (fun q1 => ?_)
  refine JL_st (wants_none rfl) rfl (st_load_pa_o 0 (opens_int _) ti_2 rfl rfl) (fun _ => ?_)
  refine JL_q (wants_none rfl) rfl (ex_geq rfl rfl) ?_
  refine JL_q (wants_none rfl) rfl (ex_assign rfl) ?_
  refine JL_nil ?_
  refine N_then ?_
  refine J_ret ?_
  exact N_ret1 rfl (rv_tmp rfl) (fun w hh => ⟨(), rfl, hh.sel [] rfl⟩)

set_option maxHeartbeats 40000000 in
theorem c_slices_IndexFunc_Sint64_int64 (A : Nat → Prop) (w : World) (hA : ∀ k, A k → k < w.heap.size) (v0_ : Value) (p0 : (List Int)) (hp0 : Rd A w v0_ p0) (v1_ : Value) (p1 : (Int → Option Bool)) (hp1 : Clo Try.prog w v1_ p1 .bool) (r : Int) (hr : F_slices_IndexFunc_Sint64_int64 p0 p1 = some r) :
    Con Try.prog 129 [v0_, v1_] A w (fun x_ : Unit => .int .i64 r) (fun x_ => []) := by
  refine Con_of (v := fun (r : Int) (x_ : Unit) => .int .i64 r) (fs := fun r x_ => []) Try.func129 rfl Try.ntmps129 rfl ((SH.start hA).start_rd rfl hp0) rfl ?_ hr
  unfold F_slices_IndexFunc_Sint64_int64
  refine J_seq ?_
  refine J_region ?_
  refine JL_q (wants_none rfl) rfl (ex_assign rfl) ?_
  refine JL_nil ?_
  refine N_then ?_
  refine J_seq ?_
  refine J_seq ?_
  refine J_region ?_
  refine JL_q (wants_none rfl) rfl (ex_move rfl) ?_
  refine JL_q (wants_none rfl) rfl (ex_len_rd 0 Try.underlying27 rfl rfl) ?_
  refine JL_q (wants_none rfl) rfl (ex_move rfl) ?_
  refine JL_nil ?_
  refine N_then ?_
  refine J_loop' (S := Int) (G := Unit) (F_slices_IndexFunc_Sint64_int64_L1 p0 p1) (fun s1 _ => [(0, v0_), (1, v1_), (7, .int .i64 (p0.length : Int)), (8, .int .i64 s1)]) (fun s1 _ => [.rd v0_ p0]) 0 () ⟨rfl, rfl, rfl, rfl, trivial⟩ [0] rfl rfl (fun s1 g2 => ?_) (fun s1 g2 => ?_)
  · unfold F_slices_IndexFunc_Sint64_int64_L1
    refine J_seq ?_
    refine J_region ?_
    refine JL_q (wants_none rfl) rfl (ex_lss rfl rfl) ?_
    refine JL_nil ?_
    refine N_then ?_
    refine J_seq ?_
    refine J_if rfl (fun h3 => ?_) (fun h3 => ?_)
    · refine J_skip ?_
      refine N_then ?_
      refine J_seq ?_
      refine J_block ?_
      refine J_seq ?_
      refine J_region ?_
      refine JL_q (wants_none rfl) rfl (ex_move rfl) ?_
      refine JL_q (wants_none rfl) rfl (ex_assign rfl) ?_
      refine JL_nil ?_
      refine N_then ?_
      refine J_seq ?_
      refine J_region ?_
      refine JL_q (wants_none rfl) rfl (ex_move rfl) ?_
      refine JL_q (wants_none rfl) rfl (ex_move rfl) ?_
      refine JL_q (wants_none rfl) rfl (ex_move rfl) ?_
      refine JL_bnd fun y4 hy5 => ?_
      refine JL_st (wants_none rfl) rfl (st_index 0 Try.underlying27 ti_2 rfl rfl rfl hy5) (fun q6 => ?_)
      refine JL_st (wants_none rfl) rfl (st_load_pt_o 0 (opens_int _) ti_2 rfl rfl) (fun _ => ?_)
      refine JL_bnd fun r8 hr9 => ?_
      refine JL_clo (wants_none rfl) rfl hp1 rfl rfl (fun w hh => (Rd.mk_int _ _ _)) hr9 ?_
      refine JL_nil ?_
      refine N_then ?_
      refine J_if rfl (fun h10 => ?_) (fun h10 => ?_)
      · refine J_seq ?_
        refine J_region ?_
        refine JL_q (wants_none rfl) rfl (ex_move rfl) ?_
        refine JL_q (wants_none rfl) rfl (ex_assign rfl) ?_
        refine JL_nil ?_
        refine N_then ?_
        refine J_ret ?_
        refine N_block_ret ?_
        refine N_then_ret ?_
        refine N_round_ret ?_
        refine N_then_ret ?_
        exact N_ret1 rfl (rv_tmp rfl) (fun w hh => ⟨(), rfl, hh.sel [] rfl⟩)
      · refine J_skip ?_
        refine N_block ?_
        refine N_then ?_
        refine J_region ?_
        refine JL_q (wants_none rfl) rfl (ex_add rfl rfl) ?_
        refine JL_q (wants_none rfl) rfl (ex_move rfl) ?_
        refine JL_nil ?_
        exact N_next' () ⟨rfl, rfl, rfl, rfl, trivial⟩ [1] rfl rfl
    · refine J_exit ?_
      refine N_then_exit ?_
      exact N_break' () ⟨rfl, rfl, rfl, rfl, trivial⟩ [0] rfl rfl
  · refine N_then ?_
    refine J_seq ?_
    refine J_region ?_
    refine JL_q (wants_none rfl) rfl (ex_assign rfl) ?_
    refine JL_nil ?_
    refine N_then ?_
    refine J_ret ?_
    exact N_ret1 rfl (rv_tmp rfl) (fun w hh => ⟨(), rfl, hh.sel [] rfl⟩)

set_option maxHeartbeats 40000000 in
theorem c_impl_trimmed (A : Nat → Prop) (w : World) (hA : ∀ k, A k → k < w.heap.size) (v0_ : Value) (p0 : (List Int)) (hp0 : Rd A w v0_ p0) (r : (List Int)) (hr : F_impl_trimmed p0 = some r) :
    Con Try.prog 43 [v0_] A w (fun x_ : Value => x_) (fun x_ => [.pr (Sub v0_ p0 x_ r)]) := by
  refine Con_of (v := fun (r : (List Int)) (x_ : Value) => x_) (fs := fun r x_ => [.pr (Sub v0_ p0 x_ r)]) Try.func43 rfl Try.ntmps43 rfl ((SH.start hA).start_rd rfl hp0) rfl ?_ hr
  unfold F_impl_trimmed
  refine J_seq ?_
  refine J_region ?_
  refine JL_q (wants_none rfl) rfl (ex_assign rfl) ?_
  refine JL_nil ?_
  refine N_then ?_
  refine J_seq ?_
  refine J_ctx (fun w hh => hh.cons_pr (p := Sub v0_ p0 v0_ p0) Sub.refl) ?_
  refine J_loop' (S := (List Int)) (G := Value) (F_impl_trimmed_L1) (fun s1 g2 => [(0, g2)]) (fun s1 g2 => [.rd g2 s1, .pr (Sub v0_ p0 g2 s1)]) p0 v0_ ⟨rfl, trivial⟩ [1, 0] rfl rfl (fun s1 g2 => ?_) (fun s1 g2 => ?_)
  · unfold F_impl_trimmed_L1
    refine J_seq ?_
    refine J_seq ?_
    refine J_region ?_
    refine JL_q (wants_none rfl) rfl (ex_move rfl) ?_
    refine JL_q (wants_none rfl) rfl (ex_len_rd 0 Try.underlying27 rfl rfl) ?_
    refine JL_q (wants_none rfl) rfl (ex_gtr rfl rfl) ?_
    refine JL_q (wants_none rfl) rfl (ex_move rfl) ?_
    refine JL_cond (fun h3 => ?_) (fun h3 => ?_)
    · refine JL_q (wants_some rfl rfl rfl h3) rfl (ex_move rfl) ?_
      refine JL_q (wants_some rfl rfl rfl h3) rfl (ex_move rfl) ?_
      refine JL_q (wants_some rfl rfl rfl h3) rfl (ex_len_rd 0 Try.underlying27 rfl rfl) ?_
      refine JL_q (wants_some rfl rfl rfl h3) rfl (ex_sub rfl rfl) ?_
      refine JL_bnd fun y4 hy5 => ?_
      refine JL_st (wants_some rfl rfl rfl h3) rfl (st_index 0 Try.underlying27 ti_2 rfl rfl rfl hy5) (fun q6 => ?_)
      refine JL_st (wants_some rfl rfl rfl h3) rfl (st_load_pt_o 0 (opens_int _) ti_2 rfl rfl) (fun _ => ?_)
      refine JL_q (wants_some rfl rfl rfl h3) rfl (ex_eql rfl rfl) ?_
      refine JL_q (wants_none rfl) rfl (ex_pick_true rfl h3 rfl) ?_
      refine JL_nil ?_
      refine N_then ?_
      refine J_if rfl (fun h8 => ?_) (fun h8 => ?_)
      · refine J_skip ?_
        refine N_then ?_
        refine J_block ?_
        refine J_region ?_
        refine JL_q (wants_none rfl) rfl (ex_move rfl) ?_
        refine JL_q (wants_none rfl) rfl (ex_move rfl) ?_
        refine JL_q (wants_none rfl) rfl (ex_len_rd 1 Try.underlying27 rfl rfl) ?_
        refine JL_q (wants_none rfl) rfl (ex_sub rfl rfl) ?_
        refine JL_bnd fun z9 hz10 => ?_
        refine JL_st (wants_none rfl) rfl (st_slice_sub 1 Try.underlying27 ti_2 rfl rfl rfl rfl hz10) (fun v11 => ?_)
        refine JL_q (wants_none rfl) rfl (ex_assign rfl) ?_
        refine JL_nil ?_
        refine N_block ?_
        refine N_ctx (fun w hh => hh.cons_pr (p := Sub v0_ p0 v11 z9) (Sub.trans (hh.pr 4 rfl) (hh.pr 1 rfl))) ?_
        exact N_next' v11 ⟨rfl, trivial⟩ [1, 0] rfl rfl
      · refine J_exit ?_
        refine N_then_exit ?_
        refine N_ctx (fun w hh => hh.cons_pr (p := Sub v0_ p0 g2 s1) (hh.pr 2 rfl)) ?_
        exact N_break' g2 ⟨rfl, trivial⟩ [2, 0] rfl rfl
    · refine JL_passed rfl rfl rfl h3 ?_
      refine JL_passed rfl rfl rfl h3 ?_
      refine JL_passed rfl rfl rfl h3 ?_
      refine JL_passed rfl rfl rfl h3 ?_
      refine JL_passed rfl rfl rfl h3 ?_
      refine JL_passed rfl rfl rfl h3 ?_
      refine JL_passed rfl rfl rfl h3 ?_
      refine JL_q (wants_none rfl) rfl (ex_pick_false rfl h3 rfl) ?_
      refine JL_nil ?_
      refine N_then ?_
      refine J_if_false rfl rfl ?_
      refine J_exit ?_
      refine N_then_exit ?_
      refine N_ctx (fun w hh => hh.cons_pr (p := Sub v0_ p0 g2 s1) (hh.pr 1 rfl)) ?_
      exact N_break' g2 ⟨rfl, trivial⟩ [1, 0] rfl rfl
  · refine N_then ?_
    refine J_seq ?_
    refine J_region ?_
    refine JL_q (wants_none rfl) rfl (ex_move rfl) ?_
    refine JL_q (wants_none rfl) rfl (ex_assign rfl) ?_
    refine JL_nil ?_
    refine N_then ?_
    refine J_ret ?_
    refine N_ctx (fun w hh => hh.cons_pr (p := Sub v0_ p0 g2 s1) (hh.pr 1 rfl)) ?_
    exact N_ret1 rfl (rv_tmp rfl) (fun w hh => ⟨g2, rfl, hh.sel [0] rfl⟩)

end Go.Proofs.Ytgojoooilijiiaa
