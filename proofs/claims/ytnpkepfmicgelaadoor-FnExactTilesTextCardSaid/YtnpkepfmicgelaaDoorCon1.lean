/-
  Each function of the program computes what its plain function says: printed by program. No condition.
-/
import Derived.Test.YtnpkepfmicgelaaDoorFn
import Derived.Test.YtnpkepfmicgelaaDoorInf
namespace Go.Proofs.YtnpkepfmicgelaaDoor
open Go Go.Tc Go.Fn
set_option linter.unusedVariables false

set_option maxHeartbeats 40000000 in
theorem c_laws_szTileS (A : Nat → Prop) (w : World) (hA : ∀ k, A k → k < w.heap.size) (v0_ : Value) (p0 : (List GTile)) (hp0 : Rd A w v0_ p0) (p1 : Int) (r : Int) (hr : F_laws_szTileS p0 p1 = some r) :
    Con Tryd.prog 6 [v0_, .int .i64 p1] A w (fun x_ : Unit => .int .i64 r) (fun x_ => []) := by
  refine Con_of (v := fun (r : Int) (x_ : Unit) => .int .i64 r) (fs := fun r x_ => []) Tryd.func6 rfl Tryd.ntmps6 rfl ((SH.start hA).start_rd rfl hp0) rfl ?_ hr
  unfold F_laws_szTileS
  refine J_seq ?_
  refine J_region ?_
  refine JL_q (wants_none rfl) rfl (ex_assign rfl) ?_
  refine JL_nil ?_
  refine N_then ?_
  refine J_seq ?_
  refine J_region ?_
  refine JL_q (wants_none rfl) rfl (ex_move rfl) ?_
  refine JL_q (wants_none rfl) rfl (ex_move rfl) ?_
  refine JL_q (wants_none rfl) rfl (ex_len_rd 0 Tryd.underlying22 rfl rfl) ?_
  refine JL_q (wants_none rfl) rfl (ex_sub rfl rfl) ?_
  refine JL_q (wants_none rfl) rfl (ex_assign rfl) ?_
  refine JL_nil ?_
  refine N_then ?_
  refine J_seq ?_
  refine J_seq ?_
  refine J_region ?_
  refine JL_q (wants_none rfl) rfl (ex_move rfl) ?_
  refine JL_q (wants_none rfl) rfl (ex_lss rfl rfl) ?_
  refine JL_nil ?_
  refine N_then ?_
  refine J_if rfl (fun h1 => ?_) (fun h1 => ?_)
  · refine J_seq ?_
    refine J_region ?_
    refine JL_q (wants_none rfl) rfl (ex_assign rfl) ?_
    refine JL_nil ?_
    refine N_then ?_
    refine J_ret ?_
    refine N_then_ret ?_
    exact N_ret1 rfl (rv_tmp rfl) (fun w hh => ⟨(), rfl, hh.sel [] rfl⟩)
  · refine J_skip ?_
    refine N_then ?_
    refine J_seq ?_
    refine J_region ?_
    refine JL_q (wants_none rfl) rfl (ex_move rfl) ?_
    refine JL_q (wants_none rfl) rfl (ex_assign rfl) ?_
    refine JL_nil ?_
    refine N_then ?_
    refine J_ret ?_
    exact N_ret1 rfl (rv_tmp rfl) (fun w hh => ⟨(), rfl, hh.sel [] rfl⟩)

set_option maxHeartbeats 40000000 in
theorem c_laws_toTile (A : Nat → Prop) (w : World) (hA : ∀ k, A k → k < w.heap.size) (v0_ : Value) (p0 : GTile) (hp0 : Rd A w v0_ p0) (r : GTile) (hr : F_laws_toTile p0 = some r) :
    Con Tryd.prog 22 [v0_] A w (fun x_ : Unit => .agg #[.int .i64 r.Left, .int .i64 r.Bottom, .int .i64 r.Right, .int .i64 r.Top]) (fun x_ => []) := by
  obtain rfl := GTile.open hp0
  refine Con_of (v := fun (r : GTile) (x_ : Unit) => .agg #[.int .i64 r.Left, .int .i64 r.Bottom, .int .i64 r.Right, .int .i64 r.Top]) (fs := fun r x_ => []) Tryd.func22 rfl Tryd.ntmps22 rfl (SH.start hA) rfl ?_ hr
  unfold F_laws_toTile
  refine J_seq ?_
  refine J_region ?_
  refine JL_st (wants_none rfl) rfl (st_box' rfl (fun w hh => (cv_aggs ⟨cv_int, cv_int, cv_int, cv_int, trivial⟩))) (fun b1 => ?_)
  refine JL_st (wants_none rfl) rfl (st_alloc zi_40 rfl) (fun b2 => ?_)
  refine JL_nil ?_
  refine N_then ?_
  refine J_seq ?_
  refine J_region ?_
  refine JL_st (wants_none rfl) rfl (st_alloc zi_40 rfl) (fun b3 => ?_)
  refine JL_nil ?_
  refine N_then ?_
  refine J_seq ?_
  refine J_region ?_
  refine JL_q (wants_none rfl) rfl (ex_fieldAddr fi_42_0 rfl rfl) ?_
  refine JL_q (wants_none rfl) rfl (ex_load_bx 2 ti_2 rfl rfl rfl) ?_
  refine JL_q (wants_none rfl) rfl (ex_fieldAddr fi_40_0 rfl rfl) ?_
  refine JL_sk (wants_none rfl) (sk_store_bx' 0 ti_2 rfl rfl (fun w hh => cv_int) rfl rfl rfl rfl) ?_
  refine JL_nil ?_
  refine N_then ?_
  refine J_seq ?_
  refine J_region ?_
  refine JL_q (wants_none rfl) rfl (ex_fieldAddr fi_42_1 rfl rfl) ?_
  refine JL_q (wants_none rfl) rfl (ex_load_bx 2 ti_2 rfl rfl rfl) ?_
  refine JL_q (wants_none rfl) rfl (ex_fieldAddr fi_40_1 rfl rfl) ?_
  refine JL_sk (wants_none rfl) (sk_store_bx' 0 ti_2 rfl rfl (fun w hh => cv_int) rfl rfl rfl rfl) ?_
  refine JL_nil ?_
  refine N_then ?_
  refine J_seq ?_
  refine J_region ?_
  refine JL_q (wants_none rfl) rfl (ex_fieldAddr fi_42_2 rfl rfl) ?_
  refine JL_q (wants_none rfl) rfl (ex_load_bx 2 ti_2 rfl rfl rfl) ?_
  refine JL_q (wants_none rfl) rfl (ex_fieldAddr fi_40_2 rfl rfl) ?_
  refine JL_sk (wants_none rfl) (sk_store_bx' 0 ti_2 rfl rfl (fun w hh => cv_int) rfl rfl rfl rfl) ?_
  refine JL_nil ?_
  refine N_then ?_
  refine J_seq ?_
  refine J_region ?_
  refine JL_q (wants_none rfl) rfl (ex_fieldAddr fi_42_3 rfl rfl) ?_
  refine JL_q (wants_none rfl) rfl (ex_load_bx 2 ti_2 rfl rfl rfl) ?_
  refine JL_q (wants_none rfl) rfl (ex_fieldAddr fi_40_3 rfl rfl) ?_
  refine JL_sk (wants_none rfl) (sk_store_bx' 0 ti_2 rfl rfl (fun w hh => cv_int) rfl rfl rfl rfl) ?_
  refine JL_nil ?_
  refine N_then ?_
  refine J_seq ?_
  refine J_region ?_
  refine JL_q (wants_none rfl) rfl (ex_load_bx_agg 0 ti_40 rfl rfl rfl rfl) ?_
  refine JL_sk (wants_none rfl) (sk_store_bx' 1 ti_40 rfl rfl (fun w hh => (cv_aggs ⟨cv_int, cv_int, cv_int, cv_int, trivial⟩)) rfl rfl rfl rfl) ?_
  refine JL_nil ?_
  refine N_then ?_
  refine J_ret ?_
  exact N_ret1 rfl (rv_cell 1 rfl rfl ti_40 rfl) (fun w hh => ⟨(), rfl, hh.sel [] rfl⟩)

set_option maxHeartbeats 40000000 in
theorem c_laws_toTileS (A : Nat → Prop) (w : World) (hA : ∀ k, A k → k < w.heap.size) (v0_ : Value) (p0 : (List GTile)) (hp0 : Rd A w v0_ p0) (r : (List GTile)) (hr : F_laws_toTileS p0 = some r) :
    Con Tryd.prog 8 [v0_] A w (fun x_ : Value => x_) (fun x_ => [.ow 40 x_ r]) := by
  refine Con_of (v := fun (r : (List GTile)) (x_ : Value) => x_) (fs := fun r x_ => [.ow 40 x_ r]) Tryd.func8 rfl Tryd.ntmps8 rfl ((SH.start hA).start_rd rfl hp0) rfl ?_ hr
  unfold F_laws_toTileS
  refine J_seq ?_
  refine J_region ?_
  refine JL_q (wants_none rfl) rfl (ex_assign rfl) ?_
  refine JL_nil ?_
  refine N_then ?_
  refine J_seq ?_
  refine J_region ?_
  refine JL_q (wants_none rfl) rfl (ex_move rfl) ?_
  refine JL_q (wants_none rfl) rfl (ex_len_rd 0 Tryd.underlying22 rfl rfl) ?_
  refine JL_bnd fun z1 hz2 => ?_
  refine JL_st (wants_none rfl) rfl (st_make (α := GTile) Tryd.underlying25 ti_40 zi_40 bi_40 rfl (fun _ _ => GTile.zero) rfl hz2) (fun b3 => ?_)
  refine JL_q (wants_none rfl) rfl (ex_assign rfl) ?_
  refine JL_nil ?_
  refine N_then ?_
  refine J_seq ?_
  refine J_seq ?_
  refine J_region ?_
  refine JL_q (wants_none rfl) rfl (ex_assign rfl) ?_
  refine JL_nil ?_
  refine N_then ?_
  refine J_loop' (S := (List GTile) × Int) (G := Unit) (F_laws_toTileS_L1 p0) (fun s4 _ => [(0, v0_), (3, (.slice (some ⟨b3, 0, none⟩) z1.length z1.length)), (4, .int .i64 s4.2)]) (fun s4 _ => [.rd v0_ p0, .ow 40 (.slice (some ⟨b3, 0, none⟩) z1.length z1.length) s4.1]) (z1, 0) () ⟨rfl, rfl, rfl, trivial⟩ [1, 0] rfl rfl (fun s4 g5 => ?_) (fun s4 g5 => ?_)
  · unfold F_laws_toTileS_L1
    refine J_seq ?_
    refine J_seq ?_
    refine J_region ?_
    refine JL_q (wants_none rfl) rfl (ex_move rfl) ?_
    refine JL_q (wants_none rfl) rfl (ex_move rfl) ?_
    refine JL_q (wants_none rfl) rfl (ex_len_rd 0 Tryd.underlying22 rfl rfl) ?_
    refine JL_q (wants_none rfl) rfl (ex_lss rfl rfl) ?_
    refine JL_nil ?_
    refine N_then ?_
    refine J_if rfl (fun h6 => ?_) (fun h6 => ?_)
    · refine J_skip ?_
      refine N_then ?_
      refine J_seq ?_
      refine J_block ?_
      refine J_region ?_
      refine JL_q (wants_none rfl) rfl (ex_move rfl) ?_
      refine JL_q (wants_none rfl) rfl (ex_move rfl) ?_
      refine JL_q (wants_none rfl) rfl (ex_move rfl) ?_
      refine JL_q (wants_none rfl) rfl (ex_move rfl) ?_
      refine JL_bnd fun y7 hy8 => ?_
      refine JL_st (wants_none rfl) rfl (st_index 0 Tryd.underlying22 ti_42 rfl rfl rfl hy8) (fun q9 => ?_)
      refine JL_st (wants_none rfl) rfl (st_load_pt_o 0 (GTile.opens _) ti_42 rfl rfl) (fun _ => ?_)
      refine JL_bnd fun r11 hr12 => ?_
      refine JL_call (wants_none rfl) rfl Tryd.call22 rfl (Ca_of0 fun w hh => c_laws_toTile _ w (fun _ hk => hk.elim) _ _ (GTile.rdmk (Rd.mk_int _ _ _) (Rd.mk_int _ _ _) (Rd.mk_int _ _ _) (Rd.mk_int _ _ _)) _ hr12) (fun _ => ?_)
      refine JL_bnd fun y13 hy14 => ?_
      refine JL_q (wants_none rfl) rfl (ex_index_ow 2 Tryd.underlying25 ti_40 rfl rfl rfl hy14) ?_
      refine JL_sk (wants_none rfl) (sk_store_ow 2 ti_40 rfl rfl rfl hy14 (fun w hh => (GTile.rdmk (Rd.mk_int _ _ _) (Rd.mk_int _ _ _) (Rd.mk_int _ _ _) (Rd.mk_int _ _ _)))) ?_
      refine JL_nil ?_
      refine N_block ?_
      refine N_then ?_
      refine J_region ?_
      refine JL_q (wants_none rfl) rfl (ex_move rfl) ?_
      refine JL_q (wants_none rfl) rfl (ex_add rfl rfl) ?_
      refine JL_q (wants_none rfl) rfl (ex_assign rfl) ?_
      refine JL_nil ?_
      exact N_next' () ⟨rfl, rfl, rfl, trivial⟩ [1, 2] rfl rfl
    · refine J_exit ?_
      refine N_then_exit ?_
      exact N_break' () ⟨rfl, rfl, rfl, trivial⟩ [0, 1] rfl rfl
  · refine N_then ?_
    refine J_seq ?_
    refine J_region ?_
    refine JL_q (wants_none rfl) rfl (ex_move rfl) ?_
    refine JL_q (wants_none rfl) rfl (ex_assign rfl) ?_
    refine JL_nil ?_
    refine N_then ?_
    refine J_ret ?_
    exact N_ret1 rfl (rv_tmp rfl) (fun w hh => ⟨(.slice (some ⟨b3, 0, none⟩) z1.length z1.length), rfl, hh.sel [1] rfl⟩)

set_option maxHeartbeats 40000000 in
theorem c_spec_l00In (A : Nat → Prop) (w : World) (hA : ∀ k, A k → k < w.heap.size) (p0 : Int) (p1 : Int) (p2 : Int) (r : Bool) (hr : F_spec_l00In p0 p1 p2 = some r) :
    Con Tryd.prog 65 [.int .i64 p0, .int .i64 p1, .int .i64 p2] A w (fun x_ : Unit => .bool r) (fun x_ => []) := by
  refine Con_of (v := fun (r : Bool) (x_ : Unit) => .bool r) (fs := fun r x_ => []) Tryd.func65 rfl Tryd.ntmps65 rfl (SH.start hA) rfl ?_ hr
  unfold F_spec_l00In
  refine J_seq ?_
  refine J_region ?_
  refine JL_q (wants_none rfl) rfl (ex_assign rfl) ?_
  refine JL_nil ?_
  refine N_then ?_
  refine J_seq ?_
  refine J_region ?_
  refine JL_q (wants_none rfl) rfl (ex_move rfl) ?_
  refine JL_q (wants_none rfl) rfl (ex_move rfl) ?_
  refine JL_q (wants_none rfl) rfl (ex_geq rfl rfl) ?_
  refine JL_q (wants_none rfl) rfl (ex_move rfl) ?_
  refine JL_cond (fun h1 => ?_) (fun h1 => ?_)
  · refine JL_q (wants_some rfl rfl rfl h1) rfl (ex_move rfl) ?_
    refine JL_q (wants_some rfl rfl rfl h1) rfl (ex_move rfl) ?_
    refine JL_q (wants_some rfl rfl rfl h1) rfl (ex_leq rfl rfl) ?_
    refine JL_q (wants_none rfl) rfl (ex_pick_true rfl h1 rfl) ?_
    refine JL_q (wants_none rfl) rfl (ex_assign rfl) ?_
    refine JL_nil ?_
    refine N_then ?_
    refine J_ret ?_
    exact N_ret1 rfl (rv_tmp rfl) (fun w hh => ⟨(), rfl, hh.sel [] rfl⟩)
  · refine JL_passed rfl rfl rfl h1 ?_
    refine JL_passed rfl rfl rfl h1 ?_
    refine JL_passed rfl rfl rfl h1 ?_
    refine JL_q (wants_none rfl) rfl (ex_pick_false rfl h1 rfl) ?_
    refine JL_q (wants_none rfl) rfl (ex_assign rfl) ?_
    refine JL_nil ?_
    refine N_then ?_
    refine J_ret ?_
    exact N_ret1 rfl (rv_tmp rfl) (fun w hh => ⟨(), rfl, hh.sel [] rfl⟩)

set_option maxHeartbeats 40000000 in
theorem c_spec_l33Color (A : Nat → Prop) (w : World) (hA : ∀ k, A k → k < w.heap.size) (p0 : Int) (r : Bool) (hr : F_spec_l33Color p0 = some r) :
    Con Tryd.prog 41 [.int .i64 p0] A w (fun x_ : Unit => .bool r) (fun x_ => []) := by
  refine Con_of (v := fun (r : Bool) (x_ : Unit) => .bool r) (fs := fun r x_ => []) Tryd.func41 rfl Tryd.ntmps41 rfl (SH.start hA) rfl ?_ hr
  unfold F_spec_l33Color
  refine J_seq ?_
  refine J_region ?_
  refine JL_q (wants_none rfl) rfl (ex_assign rfl) ?_
  refine JL_nil ?_
  refine N_then ?_
  refine J_seq ?_
  refine J_region ?_
  refine JL_q (wants_none rfl) rfl (ex_move rfl) ?_
  refine JL_bnd fun r1 hr2 => ?_
  refine JL_call (wants_none rfl) rfl Tryd.call65 rfl (Ca_of0 fun w hh => c_spec_l00In _ w (fun _ hk => hk.elim) _ _ _ _ hr2) (fun _ => ?_)
  refine JL_q (wants_none rfl) rfl (ex_assign rfl) ?_
  refine JL_nil ?_
  refine N_then ?_
  refine J_ret ?_
  exact N_ret1 rfl (rv_tmp rfl) (fun w hh => ⟨(), rfl, hh.sel [] rfl⟩)

set_option maxHeartbeats 40000000 in
theorem c_spec_l33Is (A : Nat → Prop) (w : World) (hA : ∀ k, A k → k < w.heap.size) (v0_ : Value) (p0 : (List GTile)) (hp0 : Rd A w v0_ p0) (r : Bool) (hr : F_spec_l33Is p0 = some r) :
    Con Tryd.prog 20 [v0_] A w (fun x_ : Unit => .bool r) (fun x_ => []) := by
  refine Con_of (v := fun (r : Bool) (x_ : Unit) => .bool r) (fs := fun r x_ => []) Tryd.func20 rfl Tryd.ntmps20 rfl ((SH.start hA).start_rd rfl hp0) rfl ?_ hr
  unfold F_spec_l33Is
  refine J_seq ?_
  refine J_region ?_
  refine JL_q (wants_none rfl) rfl (ex_assign rfl) ?_
  refine JL_nil ?_
  refine N_then ?_
  refine J_seq ?_
  refine J_seq ?_
  refine J_region ?_
  refine JL_q (wants_none rfl) rfl (ex_assign rfl) ?_
  refine JL_nil ?_
  refine N_then ?_
  refine J_loop' (S := Int) (G := Unit) (F_spec_l33Is_L1 p0) (fun s1 _ => [(0, v0_), (3, .int .i64 s1)]) (fun s1 _ => [.rd v0_ p0]) 0 () ⟨rfl, rfl, trivial⟩ [0] rfl rfl (fun s1 g2 => ?_) (fun s1 g2 => ?_)
  · unfold F_spec_l33Is_L1
    refine J_seq ?_
    refine J_seq ?_
    refine J_region ?_
    refine JL_q (wants_none rfl) rfl (ex_move rfl) ?_
    refine JL_q (wants_none rfl) rfl (ex_move rfl) ?_
    refine JL_q (wants_none rfl) rfl (ex_len_rd 0 Tryd.underlying25 rfl rfl) ?_
    refine JL_q (wants_none rfl) rfl (ex_lss rfl rfl) ?_
    refine JL_nil ?_
    refine N_then ?_
    refine J_if rfl (fun h3 => ?_) (fun h3 => ?_)
    · refine J_skip ?_
      refine N_then ?_
      refine J_seq ?_
      refine J_block ?_
      refine J_seq ?_
      refine J_region ?_
      refine JL_q (wants_none rfl) rfl (ex_move rfl) ?_
      refine JL_q (wants_none rfl) rfl (ex_move rfl) ?_
      refine JL_bnd fun y4 hy5 => ?_
      refine JL_st (wants_none rfl) rfl (st_index 0 Tryd.underlying25 ti_40 rfl rfl rfl hy5) (fun q6 => ?_)
      refine JL_st (wants_none rfl) rfl (st_load_pt_o 0 (GTile.opens _) ti_40 rfl rfl) (fun _ => ?_)
      refine JL_st (wants_none rfl) rfl (st_alloc zi_40 rfl) (fun b8 => ?_)
      refine JL_sk (wants_none rfl) (sk_store_bx' 0 ti_40 rfl rfl (fun w hh => (cv_aggs ⟨cv_int, cv_int, cv_int, cv_int, trivial⟩)) rfl rfl rfl rfl) ?_
      refine JL_nil ?_
      refine N_then ?_
      refine J_seq ?_
      refine J_cut' (S' := Unit) (G' := Unit) (fun _ _ => [(0, v0_), (3, .int .i64 s1), (4, .pointer (some ⟨b8, 0, none⟩))]) (fun _ _ => [.rd v0_ p0, .bx b8 40 [.int .i64 y4.Left, .int .i64 y4.Bottom, .int .i64 y4.Right, .int .i64 y4.Top]]) ?_ (fun s9 g10 => ?_)
      · refine J_seq ?_
        refine J_region ?_
        refine JL_q (wants_none rfl) rfl (ex_fieldAddr fi_40_0 rfl rfl) ?_
        refine JL_q (wants_none rfl) rfl (ex_load_bx 0 ti_2 rfl rfl rfl) ?_
        refine JL_bnd fun r11 hr12 => ?_
        refine JL_call (wants_none rfl) rfl Tryd.call41 rfl (Ca_of0 fun w hh => c_spec_l33Color _ w (fun _ hk => hk.elim) _ _ hr12) (fun _ => ?_)
        refine JL_q (wants_none rfl) rfl (ex_not rfl) ?_
        refine JL_q (wants_none rfl) rfl (ex_move rfl) ?_
        refine JL_cond (fun h13 => ?_) (fun h13 => ?_)
        · refine JL_passed rfl rfl rfl h13 ?_
          refine JL_passed rfl rfl rfl h13 ?_
          refine JL_passed rfl rfl rfl h13 ?_
          refine JL_passed rfl rfl rfl h13 ?_
          refine JL_q (wants_none rfl) rfl (ex_pick_true rfl h13 rfl) ?_
          refine JL_q (wants_none rfl) rfl (ex_move rfl) ?_
          refine JL_passed rfl rfl rfl rfl ?_
          refine JL_passed rfl rfl rfl rfl ?_
          refine JL_passed rfl rfl rfl rfl ?_
          refine JL_passed rfl rfl rfl rfl ?_
          refine JL_q (wants_none rfl) rfl (ex_pick_true rfl rfl rfl) ?_
          refine JL_q (wants_none rfl) rfl (ex_move rfl) ?_
          refine JL_passed rfl rfl rfl rfl ?_
          refine JL_passed rfl rfl rfl rfl ?_
          refine JL_passed rfl rfl rfl rfl ?_
          refine JL_passed rfl rfl rfl rfl ?_
          refine JL_q (wants_none rfl) rfl (ex_pick_true rfl rfl rfl) ?_
          refine JL_nil ?_
          refine N_then ?_
          refine J_if_true rfl rfl ?_
          refine J_seq ?_
          refine J_region ?_
          refine JL_q (wants_none rfl) rfl (ex_assign rfl) ?_
          refine JL_nil ?_
          refine N_then ?_
          refine J_ret ?_
          refine N_mid_ret ?_
          refine N_then_ret ?_
          refine N_block_ret ?_
          refine N_then_ret ?_
          refine N_round_ret ?_
          refine N_then_ret ?_
          exact N_ret1 rfl (rv_tmp rfl) (fun w hh => ⟨(), rfl, hh.sel [] rfl⟩)
        · refine JL_q (wants_some rfl rfl rfl h13) rfl (ex_fieldAddr fi_40_1 rfl rfl) ?_
          refine JL_q (wants_some rfl rfl rfl h13) rfl (ex_load_bx 0 ti_2 rfl rfl rfl) ?_
          refine JL_bnd fun r14 hr15 => ?_
          refine JL_call (wants_some rfl rfl rfl h13) rfl Tryd.call41 rfl (Ca_of0 fun w hh => c_spec_l33Color _ w (fun _ hk => hk.elim) _ _ hr15) (fun _ => ?_)
          refine JL_q (wants_some rfl rfl rfl h13) rfl (ex_not rfl) ?_
          refine JL_q (wants_none rfl) rfl (ex_pick_false rfl h13 rfl) ?_
          refine JL_q (wants_none rfl) rfl (ex_move rfl) ?_
          refine JL_cond (fun h16 => ?_) (fun h16 => ?_)
          · refine JL_passed rfl rfl rfl h16 ?_
            refine JL_passed rfl rfl rfl h16 ?_
            refine JL_passed rfl rfl rfl h16 ?_
            refine JL_passed rfl rfl rfl h16 ?_
            refine JL_q (wants_none rfl) rfl (ex_pick_true rfl h16 rfl) ?_
            refine JL_q (wants_none rfl) rfl (ex_move rfl) ?_
            refine JL_passed rfl rfl rfl rfl ?_
            refine JL_passed rfl rfl rfl rfl ?_
            refine JL_passed rfl rfl rfl rfl ?_
            refine JL_passed rfl rfl rfl rfl ?_
            refine JL_q (wants_none rfl) rfl (ex_pick_true rfl rfl rfl) ?_
            refine JL_nil ?_
            refine N_then ?_
            refine J_if_true rfl rfl ?_
            refine J_seq ?_
            refine J_region ?_
            refine JL_q (wants_none rfl) rfl (ex_assign rfl) ?_
            refine JL_nil ?_
            refine N_then ?_
            refine J_ret ?_
            refine N_mid_ret ?_
            refine N_then_ret ?_
            refine N_block_ret ?_
            refine N_then_ret ?_
            refine N_round_ret ?_
            refine N_then_ret ?_
            exact N_ret1 rfl (rv_tmp rfl) (fun w hh => ⟨(), rfl, hh.sel [] rfl⟩)
          · refine JL_q (wants_some rfl rfl rfl h16) rfl (ex_fieldAddr fi_40_2 rfl rfl) ?_
            refine JL_q (wants_some rfl rfl rfl h16) rfl (ex_load_bx 0 ti_2 rfl rfl rfl) ?_
            refine JL_bnd fun r17 hr18 => ?_
            refine JL_call (wants_some rfl rfl rfl h16) rfl Tryd.call41 rfl (Ca_of0 fun w hh => c_spec_l33Color _ w (fun _ hk => hk.elim) _ _ hr18) (fun _ => ?_)
            refine JL_q (wants_some rfl rfl rfl h16) rfl (ex_not rfl) ?_
            refine JL_q (wants_none rfl) rfl (ex_pick_false rfl h16 rfl) ?_
            refine JL_q (wants_none rfl) rfl (ex_move rfl) ?_
            refine JL_cond (fun h19 => ?_) (fun h19 => ?_)
            · refine JL_passed rfl rfl rfl h19 ?_
              refine JL_passed rfl rfl rfl h19 ?_
              refine JL_passed rfl rfl rfl h19 ?_
              refine JL_passed rfl rfl rfl h19 ?_
              refine JL_q (wants_none rfl) rfl (ex_pick_true rfl h19 rfl) ?_
              refine JL_nil ?_
              refine N_then ?_
              refine J_if_true rfl rfl ?_
              refine J_seq ?_
              refine J_region ?_
              refine JL_q (wants_none rfl) rfl (ex_assign rfl) ?_
              refine JL_nil ?_
              refine N_then ?_
              refine J_ret ?_
              refine N_mid_ret ?_
              refine N_then_ret ?_
              refine N_block_ret ?_
              refine N_then_ret ?_
              refine N_round_ret ?_
              refine N_then_ret ?_
              exact N_ret1 rfl (rv_tmp rfl) (fun w hh => ⟨(), rfl, hh.sel [] rfl⟩)
            · refine JL_q (wants_some rfl rfl rfl h19) rfl (ex_fieldAddr fi_40_3 rfl rfl) ?_
              refine JL_q (wants_some rfl rfl rfl h19) rfl (ex_load_bx 0 ti_2 rfl rfl rfl) ?_
              refine JL_bnd fun r20 hr21 => ?_
              refine JL_call (wants_some rfl rfl rfl h19) rfl Tryd.call41 rfl (Ca_of0 fun w hh => c_spec_l33Color _ w (fun _ hk => hk.elim) _ _ hr21) (fun _ => ?_)
              refine JL_q (wants_some rfl rfl rfl h19) rfl (ex_not rfl) ?_
              refine JL_q (wants_none rfl) rfl (ex_pick_false rfl h19 rfl) ?_
              refine JL_nil ?_
              refine N_then ?_
              refine J_if rfl (fun h22 => ?_) (fun h22 => ?_)
              · refine J_seq ?_
                refine J_region ?_
                refine JL_q (wants_none rfl) rfl (ex_assign rfl) ?_
                refine JL_nil ?_
                refine N_then ?_
                refine J_ret ?_
                refine N_mid_ret ?_
                refine N_then_ret ?_
                refine N_block_ret ?_
                refine N_then_ret ?_
                refine N_round_ret ?_
                refine N_then_ret ?_
                exact N_ret1 rfl (rv_tmp rfl) (fun w hh => ⟨(), rfl, hh.sel [] rfl⟩)
              · refine J_skip ?_
                exact N_meet' () ⟨rfl, rfl, rfl, trivial⟩ [2, 0] rfl rfl
      · refine N_then ?_
        refine J_seq ?_
        refine J_region ?_
        refine JL_q (wants_none rfl) rfl (ex_assign rfl) ?_
        refine JL_nil ?_
        refine N_then ?_
        refine J_loop' (S := Int) (G := Unit) (F_spec_l33Is_L2 p0 s1 y4) (fun s23 _ => [(0, v0_), (3, .int .i64 s1), (4, .pointer (some ⟨b8, 0, none⟩)), (5, .int .i64 s23)]) (fun s23 _ => [.rd v0_ p0, .bx b8 40 [.int .i64 y4.Left, .int .i64 y4.Bottom, .int .i64 y4.Right, .int .i64 y4.Top]]) 0 () ⟨rfl, rfl, rfl, rfl, trivial⟩ [0, 1] rfl rfl (fun s23 g24 => ?_) (fun s23 g24 => ?_)
        · unfold F_spec_l33Is_L2
          refine J_seq ?_
          refine J_seq ?_
          refine J_region ?_
          refine JL_q (wants_none rfl) rfl (ex_move rfl) ?_
          refine JL_q (wants_none rfl) rfl (ex_move rfl) ?_
          refine JL_q (wants_none rfl) rfl (ex_lss rfl rfl) ?_
          refine JL_q (wants_none rfl) rfl (ex_move rfl) ?_
          refine JL_cond (fun h25 => ?_) (fun h25 => ?_)
          · refine JL_q (wants_some rfl rfl rfl h25) rfl (ex_move rfl) ?_
            refine JL_q (wants_some rfl rfl rfl h25) rfl (ex_lss rfl rfl) ?_
            refine JL_q (wants_none rfl) rfl (ex_pick_true rfl h25 rfl) ?_
            refine JL_nil ?_
            refine N_then ?_
            refine J_if rfl (fun h26 => ?_) (fun h26 => ?_)
            · refine J_skip ?_
              refine N_then ?_
              refine J_seq ?_
              refine J_block ?_
              refine J_seq ?_
              refine J_draw [] (by kernel_rfl) ?_
              refine JP_take (i := 0) [0, 1] [] rfl (by kernel_rfl) (by kernel_rfl) (by kernel_rfl) rfl rfl (wants_none rfl) rfl (ex_move rfl) ?_
              refine JP_take (i := 1) [0, 1] [] rfl (by kernel_rfl) (by kernel_rfl) (by kernel_rfl) rfl rfl (wants_none rfl) rfl (ex_move rfl) ?_
              refine JP_bnd fun y27 hy28 => ?_
              refine JP_sq (i := 2) [] rfl (by kernel_rfl) (by kernel_rfl) (by kernel_rfl) rfl (wants_none rfl) rfl (sq_index 0 Tryd.underlying25 ti_40 rfl rfl rfl hy28) (fun q29 => ?_)
              refine JP_sq (i := 3) [] rfl (by kernel_rfl) (by kernel_rfl) (by kernel_rfl) rfl (wants_none rfl) rfl (sq_load_pt_o 0 (GTile.opens _) ti_40 rfl rfl) (fun _ => ?_)
              refine JP_take (i := 4) [0, 1, 2] [] rfl (by kernel_rfl) (by kernel_rfl) (by kernel_rfl) rfl rfl (wants_none rfl) rfl (ex_load_bx_agg 2 ti_40 rfl rfl rfl rfl) ?_
              refine JP_take (i := 5) [0, 1, 2] [] rfl (by kernel_rfl) (by kernel_rfl) (by kernel_rfl) rfl rfl (wants_none rfl) rfl (ex_eql_seq_40 rfl rfl) ?_
              refine JP_go [] [] rfl rfl rfl (fun _ _ _ => ?_)
              refine JD_done (by kernel_rfl) ?_
              refine N_then ?_
              refine J_if rfl (fun h31 => ?_) (fun h31 => ?_)
              · refine J_seq ?_
                refine J_region ?_
                refine JL_q (wants_none rfl) rfl (ex_assign rfl) ?_
                refine JL_nil ?_
                refine N_then ?_
                refine J_ret ?_
                refine N_block_ret ?_
                refine N_then_ret ?_
                refine N_round_ret ?_
                refine N_block_ret ?_
                refine N_then_ret ?_
                refine N_round_ret ?_
                refine N_then_ret ?_
                exact N_ret1 rfl (rv_tmp rfl) (fun w hh => ⟨(), rfl, hh.sel [] rfl⟩)
              · refine J_skip ?_
                refine N_block ?_
                refine N_then ?_
                refine J_region ?_
                refine JL_q (wants_none rfl) rfl (ex_move rfl) ?_
                refine JL_q (wants_none rfl) rfl (ex_add rfl rfl) ?_
                refine JL_q (wants_none rfl) rfl (ex_assign rfl) ?_
                refine JL_nil ?_
                exact N_next' () ⟨rfl, rfl, rfl, rfl, trivial⟩ [1, 2] rfl rfl
            · refine J_exit ?_
              refine N_then_exit ?_
              exact N_break' () ⟨rfl, rfl, rfl, rfl, trivial⟩ [0, 1] rfl rfl
          · refine JL_passed rfl rfl rfl h25 ?_
            refine JL_passed rfl rfl rfl h25 ?_
            refine JL_q (wants_none rfl) rfl (ex_pick_false rfl h25 rfl) ?_
            refine JL_nil ?_
            refine N_then ?_
            refine J_if_false rfl rfl ?_
            refine J_exit ?_
            refine N_then_exit ?_
            exact N_break' () ⟨rfl, rfl, rfl, rfl, trivial⟩ [0, 1] rfl rfl
        · refine N_block ?_
          refine N_then ?_
          refine J_region ?_
          refine JL_q (wants_none rfl) rfl (ex_move rfl) ?_
          refine JL_q (wants_none rfl) rfl (ex_add rfl rfl) ?_
          refine JL_q (wants_none rfl) rfl (ex_assign rfl) ?_
          refine JL_nil ?_
          exact N_next' () ⟨rfl, rfl, trivial⟩ [0] rfl rfl
    · refine J_exit ?_
      refine N_then_exit ?_
      exact N_break' () ⟨rfl, rfl, trivial⟩ [0] rfl rfl
  · refine N_then ?_
    refine J_seq ?_
    refine J_region ?_
    refine JL_q (wants_none rfl) rfl (ex_move rfl) ?_
    refine JL_q (wants_none rfl) rfl (ex_len_rd 0 Tryd.underlying25 rfl rfl) ?_
    refine JL_q (wants_none rfl) rfl (ex_gtr rfl rfl) ?_
    refine JL_q (wants_none rfl) rfl (ex_move rfl) ?_
    refine JL_cond (fun h32 => ?_) (fun h32 => ?_)
    · refine JL_q (wants_some rfl rfl rfl h32) rfl (ex_move rfl) ?_
      refine JL_q (wants_some rfl rfl rfl h32) rfl (ex_len_rd 0 Tryd.underlying25 rfl rfl) ?_
      refine JL_q (wants_some rfl rfl rfl h32) rfl (ex_leq rfl rfl) ?_
      refine JL_q (wants_none rfl) rfl (ex_pick_true rfl h32 rfl) ?_
      refine JL_q (wants_none rfl) rfl (ex_assign rfl) ?_
      refine JL_nil ?_
      refine N_then ?_
      refine J_ret ?_
      exact N_ret1 rfl (rv_tmp rfl) (fun w hh => ⟨(), rfl, hh.sel [] rfl⟩)
    · refine JL_passed rfl rfl rfl h32 ?_
      refine JL_passed rfl rfl rfl h32 ?_
      refine JL_passed rfl rfl rfl h32 ?_
      refine JL_q (wants_none rfl) rfl (ex_pick_false rfl h32 rfl) ?_
      refine JL_q (wants_none rfl) rfl (ex_assign rfl) ?_
      refine JL_nil ?_
      refine N_then ?_
      refine J_ret ?_
      exact N_ret1 rfl (rv_tmp rfl) (fun w hh => ⟨(), rfl, hh.sel [] rfl⟩)

set_option maxHeartbeats 40000000 in
theorem c_spec_l01Dec (A : Nat → Prop) (w : World) (hA : ∀ k, A k → k < w.heap.size) (p0 : Int) (r : ByteArray) (hr : F_spec_l01Dec p0 = some r) :
    Con Tryd.prog 42 [.int .i64 p0] A w (fun x_ : Unit => .string r) (fun x_ => []) := by
  refine Con_of (v := fun (r : ByteArray) (x_ : Unit) => .string r) (fs := fun r x_ => []) Tryd.func42 rfl Tryd.ntmps42 rfl (SH.start hA) rfl ?_ hr
  unfold F_spec_l01Dec
  refine J_seq ?_
  refine J_region ?_
  refine JL_q (wants_none rfl) rfl (ex_assign rfl) ?_
  refine JL_nil ?_
  refine N_then ?_
  refine J_seq ?_
  refine J_seq ?_
  refine J_region ?_
  refine JL_q (wants_none rfl) rfl (ex_move rfl) ?_
  refine JL_q (wants_none rfl) rfl (ex_eql rfl rfl) ?_
  refine JL_nil ?_
  refine N_then ?_
  refine J_if rfl (fun h1 => ?_) (fun h1 => ?_)
  · refine J_seq ?_
    refine J_region ?_
    refine JL_q (wants_none rfl) rfl (ex_assign rfl) ?_
    refine JL_nil ?_
    refine N_then ?_
    refine J_ret ?_
    refine N_then_ret ?_
    exact N_ret1 rfl (rv_tmp rfl) (fun w hh => ⟨(), rfl, hh.sel [] rfl⟩)
  · refine J_skip ?_
    refine N_then ?_
    refine J_seq ?_
    refine J_region ?_
    refine JL_st (wants_none rfl) rfl (st_buildSlice (vs := []) ([] : List (Ik .u8)) Tryd.underlying70 ti_5 zi_5 rfl rfl rfl (fun w hh => trivial)) (fun b2 => ?_)
    refine JL_q (wants_none rfl) rfl (ex_assign rfl) ?_
    refine JL_nil ?_
    refine N_then ?_
    refine J_seq ?_
    refine J_seq ?_
    refine J_region ?_
    refine JL_q (wants_none rfl) rfl (ex_move rfl) ?_
    refine JL_q (wants_none rfl) rfl (ex_assign rfl) ?_
    refine JL_nil ?_
    refine N_then ?_
    refine J_loop' (S := (List (Ik .u8)) × Int) (G := Value) (F_spec_l01Dec_L1) (fun s3 g4 => [(0, .int .i64 p0), (3, g4), (4, .int .i64 s3.2)]) (fun s3 g4 => [.ow 5 g4 s3.1]) (([] : List (Ik .u8)), p0) (.slice (some ⟨b2, 0, none⟩) 0 0) ⟨rfl, rfl, rfl, trivial⟩ [0] rfl rfl (fun s3 g4 => ?_) (fun s3 g4 => ?_)
    · unfold F_spec_l01Dec_L1
      refine J_seq ?_
      refine J_seq ?_
      refine J_region ?_
      refine JL_q (wants_none rfl) rfl (ex_move rfl) ?_
      refine JL_q (wants_none rfl) rfl (ex_neq rfl rfl) ?_
      refine JL_nil ?_
      refine N_then ?_
      refine J_if rfl (fun h5 => ?_) (fun h5 => ?_)
      · refine J_skip ?_
        refine N_then ?_
        refine J_seq ?_
        refine J_block ?_
        refine J_seq ?_
        refine J_region ?_
        refine JL_q (wants_none rfl) rfl (ex_move rfl) ?_
        refine JL_q (wants_none rfl) rfl (ex_rem rfl rfl (by decide)) ?_
        refine JL_q (wants_none rfl) rfl (ex_assign rfl) ?_
        refine JL_nil ?_
        refine N_then ?_
        refine J_seq ?_
        refine J_seq ?_
        refine J_region ?_
        refine JL_q (wants_none rfl) rfl (ex_move rfl) ?_
        refine JL_q (wants_none rfl) rfl (ex_lss rfl rfl) ?_
        refine JL_nil ?_
        refine N_then ?_
        refine J_if rfl (fun h6 => ?_) (fun h6 => ?_)
        · refine J_region ?_
          refine JL_q (wants_none rfl) rfl (ex_move rfl) ?_
          refine JL_q (wants_none rfl) rfl (ex_neg rfl) ?_
          refine JL_q (wants_none rfl) rfl (ex_assign rfl) ?_
          refine JL_nil ?_
          refine N_then ?_
          refine J_region ?_
          refine JL_q (wants_none rfl) rfl (ex_move rfl) ?_
          refine JL_q (wants_none rfl) rfl (ex_move rfl) ?_
          refine JL_q (wants_none rfl) rfl (ex_add rfl rfl) ?_
          refine JL_q (wants_none rfl) rfl (ex_conv_ik Tryd.underlying2 Tryd.underlying5 rfl) ?_
          refine JL_st (wants_none rfl) rfl (st_buildSlice (vs := [.int .u8 (wk .u8 (w64 (48 + (w64 (0 - (Int.tmod s3.2 10))))))]) ([(⟨(wk .u8 (w64 (48 + (w64 (0 - (Int.tmod s3.2 10))))))⟩ : Ik .u8)] : List (Ik .u8)) Tryd.underlying70 ti_5 zi_5 rfl rfl rfl (fun w hh => ⟨(Rd.mk_ik _ _ _), trivial⟩)) (fun b7 => ?_)
          refine JL_bnd fun z8 hz9 => ?_
          refine JL_st (wants_none rfl) rfl (st_append 1 Tryd.underlying70 ti_5 zi_5 rfl bi_5 rfl rfl rfl rfl (fun w hh => hh.src_ow 0 rfl) hz9) (fun v10 => ?_)
          refine JL_q (wants_none rfl) rfl (ex_assign rfl) ?_
          refine JL_nil ?_
          refine N_block ?_
          refine N_then ?_
          refine J_region ?_
          refine JL_q (wants_none rfl) rfl (ex_move rfl) ?_
          refine JL_q (wants_none rfl) rfl (ex_quo rfl rfl (by decide)) ?_
          refine JL_q (wants_none rfl) rfl (ex_assign rfl) ?_
          refine JL_nil ?_
          exact N_next' v10 ⟨rfl, rfl, rfl, trivial⟩ [1] rfl rfl
        · refine J_skip ?_
          refine N_then ?_
          refine J_region ?_
          refine JL_q (wants_none rfl) rfl (ex_move rfl) ?_
          refine JL_q (wants_none rfl) rfl (ex_move rfl) ?_
          refine JL_q (wants_none rfl) rfl (ex_add rfl rfl) ?_
          refine JL_q (wants_none rfl) rfl (ex_conv_ik Tryd.underlying2 Tryd.underlying5 rfl) ?_
          refine JL_st (wants_none rfl) rfl (st_buildSlice (vs := [.int .u8 (wk .u8 (w64 (48 + (Int.tmod s3.2 10))))]) ([(⟨(wk .u8 (w64 (48 + (Int.tmod s3.2 10))))⟩ : Ik .u8)] : List (Ik .u8)) Tryd.underlying70 ti_5 zi_5 rfl rfl rfl (fun w hh => ⟨(Rd.mk_ik _ _ _), trivial⟩)) (fun b11 => ?_)
          refine JL_bnd fun z12 hz13 => ?_
          refine JL_st (wants_none rfl) rfl (st_append 1 Tryd.underlying70 ti_5 zi_5 rfl bi_5 rfl rfl rfl rfl (fun w hh => hh.src_ow 0 rfl) hz13) (fun v14 => ?_)
          refine JL_q (wants_none rfl) rfl (ex_assign rfl) ?_
          refine JL_nil ?_
          refine N_block ?_
          refine N_then ?_
          refine J_region ?_
          refine JL_q (wants_none rfl) rfl (ex_move rfl) ?_
          refine JL_q (wants_none rfl) rfl (ex_quo rfl rfl (by decide)) ?_
          refine JL_q (wants_none rfl) rfl (ex_assign rfl) ?_
          refine JL_nil ?_
          exact N_next' v14 ⟨rfl, rfl, rfl, trivial⟩ [1] rfl rfl
      · refine J_exit ?_
        refine N_then_exit ?_
        exact N_break' g4 ⟨rfl, rfl, rfl, trivial⟩ [0] rfl rfl
    · refine N_then ?_
      refine J_seq ?_
      refine J_cut' (S' := (List (Ik .u8))) (G' := Value) (fun s15 g16 => [(3, g16)]) (fun s15 g16 => [.ow 5 g16 s15]) ?_ (fun s15 g16 => ?_)
      · refine J_seq ?_
        refine J_region ?_
        refine JL_q (wants_none rfl) rfl (ex_move rfl) ?_
        refine JL_q (wants_none rfl) rfl (ex_lss rfl rfl) ?_
        refine JL_nil ?_
        refine N_then ?_
        refine J_if rfl (fun h17 => ?_) (fun h17 => ?_)
        · refine J_region ?_
          refine JL_q (wants_none rfl) rfl (ex_move rfl) ?_
          refine JL_st (wants_none rfl) rfl (st_buildSlice (vs := [.int .u8 45]) ([(⟨45⟩ : Ik .u8)] : List (Ik .u8)) Tryd.underlying70 ti_5 zi_5 rfl rfl rfl (fun w hh => ⟨(Rd.mk_ik _ _ _), trivial⟩)) (fun b18 => ?_)
          refine JL_bnd fun z19 hz20 => ?_
          refine JL_st (wants_none rfl) rfl (st_append 1 Tryd.underlying70 ti_5 zi_5 rfl bi_5 rfl rfl rfl rfl (fun w hh => hh.src_ow 0 rfl) hz20) (fun v21 => ?_)
          refine JL_q (wants_none rfl) rfl (ex_assign rfl) ?_
          refine JL_nil ?_
          exact N_meet' v21 ⟨rfl, trivial⟩ [1] rfl rfl
        · refine J_skip ?_
          exact N_meet' g4 ⟨rfl, trivial⟩ [0] rfl rfl
      · refine N_then ?_
        refine J_seq ?_
        refine J_region ?_
        refine JL_st (wants_none rfl) rfl (st_buildSlice (vs := []) ([] : List (Ik .u8)) Tryd.underlying70 ti_5 zi_5 rfl rfl rfl (fun w hh => trivial)) (fun b22 => ?_)
        refine JL_q (wants_none rfl) rfl (ex_assign rfl) ?_
        refine JL_nil ?_
        refine N_then ?_
        refine J_seq ?_
        refine J_seq ?_
        refine J_region ?_
        refine JL_q (wants_none rfl) rfl (ex_move rfl) ?_
        refine JL_q (wants_none rfl) rfl (ex_len_ow 1 Tryd.underlying70 rfl rfl) ?_
        refine JL_q (wants_none rfl) rfl (ex_sub rfl rfl) ?_
        refine JL_q (wants_none rfl) rfl (ex_assign rfl) ?_
        refine JL_nil ?_
        refine N_then ?_
        refine J_loop' (S := (List (Ik .u8)) × Int) (G := Value) (F_spec_l01Dec_L2 s15) (fun s23 g24 => [(3, g16), (6, g24), (7, .int .i64 s23.2)]) (fun s23 g24 => [.ow 5 g16 s15, .ow 5 g24 s23.1]) (([] : List (Ik .u8)), (w64 ((s15.length : Int) - 1))) (.slice (some ⟨b22, 0, none⟩) 0 0) ⟨rfl, rfl, rfl, trivial⟩ [1, 0] rfl rfl (fun s23 g24 => ?_) (fun s23 g24 => ?_)
        · unfold F_spec_l01Dec_L2
          refine J_seq ?_
          refine J_seq ?_
          refine J_region ?_
          refine JL_q (wants_none rfl) rfl (ex_move rfl) ?_
          refine JL_q (wants_none rfl) rfl (ex_geq rfl rfl) ?_
          refine JL_nil ?_
          refine N_then ?_
          refine J_if rfl (fun h25 => ?_) (fun h25 => ?_)
          · refine J_skip ?_
            refine N_then ?_
            refine J_seq ?_
            refine J_block ?_
            refine J_region ?_
            refine JL_q (wants_none rfl) rfl (ex_move rfl) ?_
            refine JL_q (wants_none rfl) rfl (ex_move rfl) ?_
            refine JL_q (wants_none rfl) rfl (ex_move rfl) ?_
            refine JL_bnd fun y26 hy27 => ?_
            refine JL_ow_open (v := g16) 0 rfl hy27 ?_; rintro b28 cap29 rfl
            refine JL_q (wants_none rfl) rfl (ex_index_ow 0 Tryd.underlying70 ti_5 rfl rfl rfl hy27) ?_
            refine JL_st (wants_none rfl) rfl (st_load_ow_o 0 (opens_ik _) ti_5 rfl rfl hy27) (fun _ => ?_)
            refine JL_st (wants_none rfl) rfl (st_buildSlice (vs := [.int .u8 y26.val]) ([y26] : List (Ik .u8)) Tryd.underlying70 ti_5 zi_5 rfl rfl rfl (fun w hh => ⟨(Rd.mk_ik _ _ _), trivial⟩)) (fun b31 => ?_)
            refine JL_bnd fun z32 hz33 => ?_
            refine JL_st (wants_none rfl) rfl (st_append 2 Tryd.underlying70 ti_5 zi_5 rfl bi_5 rfl rfl rfl rfl (fun w hh => hh.src_ow 0 rfl) hz33) (fun v34 => ?_)
            refine JL_q (wants_none rfl) rfl (ex_assign rfl) ?_
            refine JL_nil ?_
            refine N_block ?_
            refine N_then ?_
            refine J_region ?_
            refine JL_q (wants_none rfl) rfl (ex_move rfl) ?_
            refine JL_q (wants_none rfl) rfl (ex_sub rfl rfl) ?_
            refine JL_q (wants_none rfl) rfl (ex_assign rfl) ?_
            refine JL_nil ?_
            exact N_next' v34 ⟨rfl, rfl, rfl, trivial⟩ [1, 2] rfl rfl
          · refine J_exit ?_
            refine N_then_exit ?_
            exact N_break' g24 ⟨rfl, rfl, rfl, trivial⟩ [0, 1] rfl rfl
        · refine N_then ?_
          refine J_seq ?_
          refine J_region ?_
          refine JL_q (wants_none rfl) rfl (ex_move rfl) ?_
          refine JL_q (wants_none rfl) rfl (ex_str Tryd.underlying70 Tryd.underlying5 Tryd.underlying9 rfl (fun w hh => (hh.ow0 1 rfl))) ?_
          refine JL_q (wants_none rfl) rfl (ex_assign rfl) ?_
          refine JL_nil ?_
          refine N_then ?_
          refine J_ret ?_
          exact N_ret1 rfl (rv_tmp rfl) (fun w hh => ⟨(), rfl, hh.sel [] rfl⟩)

set_option maxHeartbeats 40000000 in
theorem c_spec_l33Text (A : Nat → Prop) (w : World) (hA : ∀ k, A k → k < w.heap.size) (v0_ : Value) (p0 : (List GTile)) (hp0 : Rd A w v0_ p0) (r : ByteArray) (hr : F_spec_l33Text p0 = some r) :
    Con Tryd.prog 21 [v0_] A w (fun x_ : Unit => .string r) (fun x_ => []) := by
  refine Con_of (v := fun (r : ByteArray) (x_ : Unit) => .string r) (fs := fun r x_ => []) Tryd.func21 rfl Tryd.ntmps21 rfl ((SH.start hA).start_rd rfl hp0) rfl ?_ hr
  unfold F_spec_l33Text
  refine J_seq ?_
  refine J_region ?_
  refine JL_q (wants_none rfl) rfl (ex_assign rfl) ?_
  refine JL_nil ?_
  refine N_then ?_
  refine J_seq ?_
  refine J_region ?_
  refine JL_q (wants_none rfl) rfl (ex_assign rfl) ?_
  refine JL_nil ?_
  refine N_then ?_
  refine J_seq ?_
  refine J_seq ?_
  refine J_region ?_
  refine JL_q (wants_none rfl) rfl (ex_assign rfl) ?_
  refine JL_nil ?_
  refine N_then ?_
  refine J_loop' (S := ByteArray × Int) (G := Unit) (F_spec_l33Text_L1 p0) (fun s1 _ => [(0, v0_), (3, .string s1.1), (4, .int .i64 s1.2)]) (fun s1 _ => [.rd v0_ p0]) ((⟨#[]⟩ : ByteArray), 0) () ⟨rfl, rfl, rfl, trivial⟩ [0] rfl rfl (fun s1 g2 => ?_) (fun s1 g2 => ?_)
  · unfold F_spec_l33Text_L1
    refine J_seq ?_
    refine J_seq ?_
    refine J_region ?_
    refine JL_q (wants_none rfl) rfl (ex_move rfl) ?_
    refine JL_q (wants_none rfl) rfl (ex_move rfl) ?_
    refine JL_q (wants_none rfl) rfl (ex_len_rd 0 Tryd.underlying25 rfl rfl) ?_
    refine JL_q (wants_none rfl) rfl (ex_lss rfl rfl) ?_
    refine JL_nil ?_
    refine N_then ?_
    refine J_if rfl (fun h3 => ?_) (fun h3 => ?_)
    · refine J_skip ?_
      refine N_then ?_
      refine J_seq ?_
      refine J_block ?_
      refine J_seq ?_
      refine J_cut' (S' := ByteArray) (G' := Unit) (fun s4 _ => [(0, v0_), (3, .string s4), (4, .int .i64 s1.2)]) (fun s4 _ => [.rd v0_ p0]) ?_ (fun s4 g5 => ?_)
      · refine J_seq ?_
        refine J_region ?_
        refine JL_q (wants_none rfl) rfl (ex_move rfl) ?_
        refine JL_q (wants_none rfl) rfl (ex_gtr rfl rfl) ?_
        refine JL_nil ?_
        refine N_then ?_
        refine J_if rfl (fun h6 => ?_) (fun h6 => ?_)
        · refine J_region ?_
          refine JL_q (wants_none rfl) rfl (ex_move rfl) ?_
          refine JL_bnd fun z7 hz8 => ?_
          refine JL_q (wants_none rfl) rfl (ex_add_str rfl rfl hz8) ?_
          refine JL_q (wants_none rfl) rfl (ex_assign rfl) ?_
          refine JL_nil ?_
          exact N_meet' () ⟨rfl, rfl, rfl, trivial⟩ [0] rfl rfl
        · refine J_skip ?_
          exact N_meet' () ⟨rfl, rfl, rfl, trivial⟩ [0] rfl rfl
      · refine N_then ?_
        refine J_seq ?_
        refine J_region ?_
        refine JL_q (wants_none rfl) rfl (ex_move rfl) ?_
        refine JL_q (wants_none rfl) rfl (ex_move rfl) ?_
        refine JL_bnd fun y9 hy10 => ?_
        refine JL_st (wants_none rfl) rfl (st_index 0 Tryd.underlying25 ti_40 rfl rfl rfl hy10) (fun q11 => ?_)
        refine JL_st (wants_none rfl) rfl (st_load_pt_o 0 (GTile.opens _) ti_40 rfl rfl) (fun _ => ?_)
        refine JL_st (wants_none rfl) rfl (st_alloc zi_40 rfl) (fun b13 => ?_)
        refine JL_sk (wants_none rfl) (sk_store_bx' 0 ti_40 rfl rfl (fun w hh => (cv_aggs ⟨cv_int, cv_int, cv_int, cv_int, trivial⟩)) rfl rfl rfl rfl) ?_
        refine JL_nil ?_
        refine N_then ?_
        refine J_draw [] (by kernel_rfl) ?_
        refine JP_take (i := 0) [0, 1, 2] [] rfl (by kernel_rfl) (by kernel_rfl) (by kernel_rfl) rfl rfl (wants_none rfl) rfl (ex_move rfl) ?_
        refine JP_take (i := 1) [0, 1, 2] [] rfl (by kernel_rfl) (by kernel_rfl) (by kernel_rfl) rfl rfl (wants_none rfl) rfl (ex_fieldAddr fi_40_0 rfl rfl) ?_
        refine JP_take (i := 2) [0, 1, 2] [] rfl (by kernel_rfl) (by kernel_rfl) (by kernel_rfl) rfl rfl (wants_none rfl) rfl (ex_load_bx 0 ti_2 rfl rfl rfl) ?_
        refine JP_take (i := 5) [0, 1, 2] [] rfl (by kernel_rfl) (by kernel_rfl) (by kernel_rfl) rfl rfl (wants_none rfl) rfl (ex_fieldAddr fi_40_1 rfl rfl) ?_
        refine JP_take (i := 6) [0, 1, 2] [] rfl (by kernel_rfl) (by kernel_rfl) (by kernel_rfl) rfl rfl (wants_none rfl) rfl (ex_load_bx 0 ti_2 rfl rfl rfl) ?_
        refine JP_take (i := 10) [0, 1, 2] [] rfl (by kernel_rfl) (by kernel_rfl) (by kernel_rfl) rfl rfl (wants_none rfl) rfl (ex_fieldAddr fi_40_2 rfl rfl) ?_
        refine JP_take (i := 11) [0, 1, 2] [] rfl (by kernel_rfl) (by kernel_rfl) (by kernel_rfl) rfl rfl (wants_none rfl) rfl (ex_load_bx 0 ti_2 rfl rfl rfl) ?_
        refine JP_take (i := 15) [0, 1, 2] [] rfl (by kernel_rfl) (by kernel_rfl) (by kernel_rfl) rfl rfl (wants_none rfl) rfl (ex_fieldAddr fi_40_3 rfl rfl) ?_
        refine JP_take (i := 16) [0, 1, 2] [] rfl (by kernel_rfl) (by kernel_rfl) (by kernel_rfl) rfl rfl (wants_none rfl) rfl (ex_load_bx 0 ti_2 rfl rfl rfl) ?_
        refine JP_go [0, 1, 2] [] rfl rfl rfl (fun w15 h1_16 hp14 => ?_)
        refine JD_bnd fun r17 hr18 => ?_
        refine JD_one (i := 3) (by kernel_rfl) ?_
        refine JO_call rfl (wants_none rfl) rfl Tryd.call42 rfl (Ca_of0 fun w hh => c_spec_l01Dec _ w (fun _ hk => hk.elim) _ _ hr18) (fun _ => ?_)
        refine JD_bnd fun z19 hz20 => ?_
        refine JD_take (i := 4) hp14 rfl (by kernel_rfl) (by kernel_rfl) (by kernel_rfl) (wants_none rfl) rfl (ex_add_str rfl rfl hz20) ?_
        refine JD_bnd fun r21 hr22 => ?_
        refine JD_one (i := 7) (by kernel_rfl) ?_
        refine JO_call rfl (wants_none rfl) rfl Tryd.call42 rfl (Ca_of0 fun w hh => c_spec_l01Dec _ w (fun _ hk => hk.elim) _ _ hr22) (fun _ => ?_)
        refine JD_bnd fun z23 hz24 => ?_
        refine JD_take (i := 8) hp14 rfl (by kernel_rfl) (by kernel_rfl) (by kernel_rfl) (wants_none rfl) rfl (ex_add_str rfl rfl hz24) ?_
        refine JD_bnd fun z25 hz26 => ?_
        refine JD_take (i := 9) hp14 rfl (by kernel_rfl) (by kernel_rfl) (by kernel_rfl) (wants_none rfl) rfl (ex_add_str rfl rfl hz26) ?_
        refine JD_bnd fun r27 hr28 => ?_
        refine JD_one (i := 12) (by kernel_rfl) ?_
        refine JO_call rfl (wants_none rfl) rfl Tryd.call42 rfl (Ca_of0 fun w hh => c_spec_l01Dec _ w (fun _ hk => hk.elim) _ _ hr28) (fun _ => ?_)
        refine JD_bnd fun z29 hz30 => ?_
        refine JD_take (i := 13) hp14 rfl (by kernel_rfl) (by kernel_rfl) (by kernel_rfl) (wants_none rfl) rfl (ex_add_str rfl rfl hz30) ?_
        refine JD_bnd fun z31 hz32 => ?_
        refine JD_take (i := 14) hp14 rfl (by kernel_rfl) (by kernel_rfl) (by kernel_rfl) (wants_none rfl) rfl (ex_add_str rfl rfl hz32) ?_
        refine JD_bnd fun r33 hr34 => ?_
        refine JD_one (i := 17) (by kernel_rfl) ?_
        refine JO_call rfl (wants_none rfl) rfl Tryd.call42 rfl (Ca_of0 fun w hh => c_spec_l01Dec _ w (fun _ hk => hk.elim) _ _ hr34) (fun _ => ?_)
        refine JD_bnd fun z35 hz36 => ?_
        refine JD_take (i := 18) hp14 rfl (by kernel_rfl) (by kernel_rfl) (by kernel_rfl) (wants_none rfl) rfl (ex_add_str rfl rfl hz36) ?_
        refine JD_bnd fun z37 hz38 => ?_
        refine JD_take (i := 19) hp14 rfl (by kernel_rfl) (by kernel_rfl) (by kernel_rfl) (wants_none rfl) rfl (ex_add_str rfl rfl hz38) ?_
        refine JD_take (i := 20) hp14 rfl (by kernel_rfl) (by kernel_rfl) (by kernel_rfl) (wants_none rfl) rfl (ex_assign rfl) ?_
        refine JD_done (by kernel_rfl) ?_
        refine N_block ?_
        refine N_then ?_
        refine J_region ?_
        refine JL_q (wants_none rfl) rfl (ex_move rfl) ?_
        refine JL_q (wants_none rfl) rfl (ex_add rfl rfl) ?_
        refine JL_q (wants_none rfl) rfl (ex_assign rfl) ?_
        refine JL_nil ?_
        exact N_next' () ⟨rfl, rfl, rfl, trivial⟩ [2] rfl rfl
    · refine J_exit ?_
      refine N_then_exit ?_
      exact N_break' () ⟨rfl, rfl, rfl, trivial⟩ [0] rfl rfl
  · refine N_then ?_
    refine J_seq ?_
    refine J_region ?_
    refine JL_q (wants_none rfl) rfl (ex_move rfl) ?_
    refine JL_q (wants_none rfl) rfl (ex_assign rfl) ?_
    refine JL_nil ?_
    refine N_then ?_
    refine J_ret ?_
    exact N_ret1 rfl (rv_tmp rfl) (fun w hh => ⟨(), rfl, hh.sel [] rfl⟩)

set_option maxHeartbeats 40000000 in
theorem c_spec_TilesText (A : Nat → Prop) (w : World) (hA : ∀ k, A k → k < w.heap.size) (v0_ : Value) (p0 : (List GTile)) (hp0 : Rd A w v0_ p0) (r : ByteArray) (hr : F_spec_TilesText p0 = some r) :
    Con Tryd.prog 7 [v0_] A w (fun x_ : Unit => .string r) (fun x_ => []) := by
  refine Con_of (v := fun (r : ByteArray) (x_ : Unit) => .string r) (fs := fun r x_ => []) Tryd.func7 rfl Tryd.ntmps7 rfl ((SH.start hA).start_rd rfl hp0) rfl ?_ hr
  unfold F_spec_TilesText
  refine J_seq ?_
  refine J_region ?_
  refine JL_q (wants_none rfl) rfl (ex_assign rfl) ?_
  refine JL_nil ?_
  refine N_then ?_
  refine J_seq ?_
  refine J_seq ?_
  refine J_region ?_
  refine JL_q (wants_none rfl) rfl (ex_move rfl) ?_
  refine JL_bnd fun r1 hr2 => ?_
  refine JL_call (wants_none rfl) rfl Tryd.call20 rfl (Ca_of0 fun w hh => c_spec_l33Is _ w (fun _ hk => hk.elim) _ _ (hh.rd0 0 rfl) _ hr2) (fun _ => ?_)
  refine JL_q (wants_none rfl) rfl (ex_not rfl) ?_
  refine JL_nil ?_
  refine N_then ?_
  refine J_if rfl (fun h3 => ?_) (fun h3 => ?_)
  · refine J_seq ?_
    refine J_region ?_
    refine JL_q (wants_none rfl) rfl (ex_assign rfl) ?_
    refine JL_nil ?_
    refine N_then ?_
    refine J_ret ?_
    refine N_then_ret ?_
    exact N_ret1 rfl (rv_tmp rfl) (fun w hh => ⟨(), rfl, hh.sel [] rfl⟩)
  · refine J_skip ?_
    refine N_then ?_
    refine J_seq ?_
    refine J_region ?_
    refine JL_q (wants_none rfl) rfl (ex_move rfl) ?_
    refine JL_bnd fun r4 hr5 => ?_
    refine JL_call (wants_none rfl) rfl Tryd.call21 rfl (Ca_of0 fun w hh => c_spec_l33Text _ w (fun _ hk => hk.elim) _ _ (hh.rd0 0 rfl) _ hr5) (fun _ => ?_)
    refine JL_q (wants_none rfl) rfl (ex_assign rfl) ?_
    refine JL_nil ?_
    refine N_then ?_
    refine J_ret ?_
    exact N_ret1 rfl (rv_tmp rfl) (fun w hh => ⟨(), rfl, hh.sel [] rfl⟩)

set_option maxHeartbeats 40000000 in
theorem c_impl_size_impl_Tile (A : Nat → Prop) (w : World) (hA : ∀ k, A k → k < w.heap.size) (v0_ : Value) (p0 : (List GTile)) (hp0 : Rd A w v0_ p0) (r : Int) (hr : F_impl_size_impl_Tile p0 = some r) :
    Con Tryd.prog 44 [v0_] A w (fun x_ : Unit => .int .i64 r) (fun x_ => []) := by
  refine Con_of (v := fun (r : Int) (x_ : Unit) => .int .i64 r) (fs := fun r x_ => []) Tryd.func44 rfl Tryd.ntmps44 rfl ((SH.start hA).start_rd rfl hp0) rfl ?_ hr
  unfold F_impl_size_impl_Tile
  refine J_seq ?_
  refine J_region ?_
  refine JL_q (wants_none rfl) rfl (ex_assign rfl) ?_
  refine JL_nil ?_
  refine N_then ?_
  refine J_seq ?_
  refine J_region ?_
  refine JL_q (wants_none rfl) rfl (ex_move rfl) ?_
  refine JL_q (wants_none rfl) rfl (ex_len_rd 0 Tryd.underlying25 rfl rfl) ?_
  refine JL_q (wants_none rfl) rfl (ex_assign rfl) ?_
  refine JL_nil ?_
  refine N_then ?_
  refine J_ret ?_
  exact N_ret1 rfl (rv_tmp rfl) (fun w hh => ⟨(), rfl, hh.sel [] rfl⟩)

set_option maxHeartbeats 40000000 in
theorem c_impl_within (A : Nat → Prop) (w : World) (hA : ∀ k, A k → k < w.heap.size) (p0 : Int) (p1 : Int) (p2 : Int) (r : Bool) (hr : F_impl_within p0 p1 p2 = some r) :
    Con Tryd.prog 43 [.int .i64 p0, .int .i64 p1, .int .i64 p2] A w (fun x_ : Unit => .bool r) (fun x_ => []) := by
  refine Con_of (v := fun (r : Bool) (x_ : Unit) => .bool r) (fs := fun r x_ => []) Tryd.func43 rfl Tryd.ntmps43 rfl (SH.start hA) rfl ?_ hr
  unfold F_impl_within
  refine J_seq ?_
  refine J_region ?_
  refine JL_q (wants_none rfl) rfl (ex_assign rfl) ?_
  refine JL_nil ?_
  refine N_then ?_
  refine J_seq ?_
  refine J_region ?_
  refine JL_q (wants_none rfl) rfl (ex_move rfl) ?_
  refine JL_q (wants_none rfl) rfl (ex_move rfl) ?_
  refine JL_q (wants_none rfl) rfl (ex_leq rfl rfl) ?_
  refine JL_q (wants_none rfl) rfl (ex_move rfl) ?_
  refine JL_cond (fun h1 => ?_) (fun h1 => ?_)
  · refine JL_q (wants_some rfl rfl rfl h1) rfl (ex_move rfl) ?_
    refine JL_q (wants_some rfl rfl rfl h1) rfl (ex_move rfl) ?_
    refine JL_q (wants_some rfl rfl rfl h1) rfl (ex_leq rfl rfl) ?_
    refine JL_q (wants_none rfl) rfl (ex_pick_true rfl h1 rfl) ?_
    refine JL_q (wants_none rfl) rfl (ex_assign rfl) ?_
    refine JL_nil ?_
    refine N_then ?_
    refine J_ret ?_
    exact N_ret1 rfl (rv_tmp rfl) (fun w hh => ⟨(), rfl, hh.sel [] rfl⟩)
  · refine JL_passed rfl rfl rfl h1 ?_
    refine JL_passed rfl rfl rfl h1 ?_
    refine JL_passed rfl rfl rfl h1 ?_
    refine JL_q (wants_none rfl) rfl (ex_pick_false rfl h1 rfl) ?_
    refine JL_q (wants_none rfl) rfl (ex_assign rfl) ?_
    refine JL_nil ?_
    refine N_then ?_
    refine J_ret ?_
    exact N_ret1 rfl (rv_tmp rfl) (fun w hh => ⟨(), rfl, hh.sel [] rfl⟩)

set_option maxHeartbeats 40000000 in
theorem c_impl_allWithin (A : Nat → Prop) (w : World) (hA : ∀ k, A k → k < w.heap.size) (v0_ : Value) (p0 : (List Int)) (hp0 : Rd A w v0_ p0) (p1 : Int) (p2 : Int) (r : Bool) (hr : F_impl_allWithin p0 p1 p2 = some r) :
    Con Tryd.prog 66 [v0_, .int .i64 p1, .int .i64 p2] A w (fun x_ : Unit => .bool r) (fun x_ => []) := by
  refine Con_of (v := fun (r : Bool) (x_ : Unit) => .bool r) (fs := fun r x_ => []) Tryd.func66 rfl Tryd.ntmps66 rfl ((SH.start hA).start_rd rfl hp0) rfl ?_ hr
  unfold F_impl_allWithin
  refine J_seq ?_
  refine J_region ?_
  refine JL_q (wants_none rfl) rfl (ex_assign rfl) ?_
  refine JL_nil ?_
  refine N_then ?_
  refine J_seq ?_
  refine J_seq ?_
  refine J_region ?_
  refine JL_q (wants_none rfl) rfl (ex_move rfl) ?_
  refine JL_q (wants_none rfl) rfl (ex_len_rd 0 Tryd.underlying45 rfl rfl) ?_
  refine JL_q (wants_none rfl) rfl (ex_move rfl) ?_
  refine JL_nil ?_
  refine N_then ?_
  refine J_loop' (S := Int) (G := Unit) (F_impl_allWithin_L1 p0 p1 p2) (fun s1 _ => [(1, .int .i64 p1), (2, .int .i64 p2), (9, v0_), (10, .int .i64 (p0.length : Int)), (11, .int .i64 s1)]) (fun s1 _ => [.rd v0_ p0]) 0 () ⟨rfl, rfl, rfl, rfl, rfl, trivial⟩ [0] rfl rfl (fun s1 g2 => ?_) (fun s1 g2 => ?_)
  · unfold F_impl_allWithin_L1
    refine J_seq ?_
    refine J_region ?_
    refine JL_q (wants_none rfl) rfl (ex_lss rfl rfl) ?_
    refine JL_nil ?_
    refine N_then ?_
    refine J_seq ?_
    refine J_if rfl (fun h3 => ?_) (fun h3 => ?_)
    · refine J_skip ?_
      refine N_then ?_
      refine J_seq ?_
      refine J_block ?_
      refine J_seq ?_
      refine J_region ?_
      refine JL_bnd fun y4 hy5 => ?_
      refine JL_st (wants_none rfl) rfl (st_index 0 Tryd.underlying45 ti_2 rfl rfl rfl hy5) (fun q6 => ?_)
      refine JL_st (wants_none rfl) rfl (st_load_pt_o 0 (opens_int _) ti_2 rfl rfl) (fun _ => ?_)
      refine JL_q (wants_none rfl) rfl (ex_assign rfl) ?_
      refine JL_nil ?_
      refine N_then ?_
      refine J_seq ?_
      refine J_region ?_
      refine JL_q (wants_none rfl) rfl (ex_move rfl) ?_
      refine JL_q (wants_none rfl) rfl (ex_move rfl) ?_
      refine JL_q (wants_none rfl) rfl (ex_move rfl) ?_
      refine JL_bnd fun r8 hr9 => ?_
      refine JL_call (wants_none rfl) rfl Tryd.call43 rfl (Ca_of0 fun w hh => c_impl_within _ w (fun _ hk => hk.elim) _ _ _ _ hr9) (fun _ => ?_)
      refine JL_q (wants_none rfl) rfl (ex_not rfl) ?_
      refine JL_nil ?_
      refine N_then ?_
      refine J_if rfl (fun h10 => ?_) (fun h10 => ?_)
      · refine J_seq ?_
        refine J_region ?_
        refine JL_q (wants_none rfl) rfl (ex_assign rfl) ?_
        refine JL_nil ?_
        refine N_then ?_
        refine J_ret ?_
        refine N_block_ret ?_
        refine N_then_ret ?_
        refine N_round_ret ?_
        refine N_then_ret ?_
        exact N_ret1 rfl (rv_tmp rfl) (fun w hh => ⟨(), rfl, hh.sel [] rfl⟩)
      · refine J_skip ?_
        refine N_block ?_
        refine N_then ?_
        refine J_region ?_
        refine JL_q (wants_none rfl) rfl (ex_add rfl rfl) ?_
        refine JL_q (wants_none rfl) rfl (ex_move rfl) ?_
        refine JL_nil ?_
        exact N_next' () ⟨rfl, rfl, rfl, rfl, rfl, trivial⟩ [1] rfl rfl
    · refine J_exit ?_
      refine N_then_exit ?_
      exact N_break' () ⟨rfl, rfl, rfl, rfl, rfl, trivial⟩ [0] rfl rfl
  · refine N_then ?_
    refine J_seq ?_
    refine J_region ?_
    refine JL_q (wants_none rfl) rfl (ex_assign rfl) ?_
    refine JL_nil ?_
    refine N_then ?_
    refine J_ret ?_
    exact N_ret1 rfl (rv_tmp rfl) (fun w hh => ⟨(), rfl, hh.sel [] rfl⟩)

set_option maxHeartbeats 40000000 in
theorem c_impl_colorsOk (A : Nat → Prop) (w : World) (hA : ∀ k, A k → k < w.heap.size) (v0_ : Value) (p0 : (List Int)) (hp0 : Rd A w v0_ p0) (r : Bool) (hr : F_impl_colorsOk p0 = some r) :
    Con Tryd.prog 45 [v0_] A w (fun x_ : Unit => .bool r) (fun x_ => []) := by
  refine Con_of (v := fun (r : Bool) (x_ : Unit) => .bool r) (fs := fun r x_ => []) Tryd.func45 rfl Tryd.ntmps45 rfl ((SH.start hA).start_rd rfl hp0) rfl ?_ hr
  unfold F_impl_colorsOk
  refine J_seq ?_
  refine J_region ?_
  refine JL_q (wants_none rfl) rfl (ex_assign rfl) ?_
  refine JL_nil ?_
  refine N_then ?_
  refine J_seq ?_
  refine J_region ?_
  refine JL_q (wants_none rfl) rfl (ex_move rfl) ?_
  refine JL_bnd fun r1 hr2 => ?_
  refine JL_call (wants_none rfl) rfl Tryd.call66 rfl (Ca_of0 fun w hh => c_impl_allWithin _ w (fun _ hk => hk.elim) _ _ (hh.rd0 0 rfl) _ _ _ hr2) (fun _ => ?_)
  refine JL_q (wants_none rfl) rfl (ex_assign rfl) ?_
  refine JL_nil ?_
  refine N_then ?_
  refine J_ret ?_
  exact N_ret1 rfl (rv_tmp rfl) (fun w hh => ⟨(), rfl, hh.sel [] rfl⟩)

set_option maxHeartbeats 40000000 in
theorem c_slices_Index_Simpl_Tile_impl_Tile (A : Nat → Prop) (w : World) (hA : ∀ k, A k → k < w.heap.size) (v0_ : Value) (p0 : (List GTile)) (hp0 : Rd A w v0_ p0) (v1_ : Value) (p1 : GTile) (hp1 : Rd A w v1_ p1) (r : Int) (hr : F_slices_Index_Simpl_Tile_impl_Tile p0 p1 = some r) :
    Con Tryd.prog 46 [v0_, v1_] A w (fun x_ : Unit => .int .i64 r) (fun x_ => []) := by
  obtain rfl := GTile.open hp1
  refine Con_of (v := fun (r : Int) (x_ : Unit) => .int .i64 r) (fs := fun r x_ => []) Tryd.func46 rfl Tryd.ntmps46 rfl ((SH.start hA).start_rd rfl hp0) rfl ?_ hr
  unfold F_slices_Index_Simpl_Tile_impl_Tile
  refine J_seq ?_
  refine J_region ?_
  refine JL_st (wants_none rfl) rfl (st_box' rfl (fun w hh => (cv_aggs ⟨cv_int, cv_int, cv_int, cv_int, trivial⟩))) (fun b1 => ?_)
  refine JL_q (wants_none rfl) rfl (ex_assign rfl) ?_
  refine JL_nil ?_
  refine N_then ?_
  refine J_seq ?_
  refine J_seq ?_
  refine J_region ?_
  refine JL_q (wants_none rfl) rfl (ex_move rfl) ?_
  refine JL_q (wants_none rfl) rfl (ex_len_rd 1 Tryd.underlying25 rfl rfl) ?_
  refine JL_q (wants_none rfl) rfl (ex_move rfl) ?_
  refine JL_nil ?_
  refine N_then ?_
  refine J_loop' (S := Int) (G := Unit) (F_slices_Index_Simpl_Tile_impl_Tile_L1 p0 p1) (fun s2 _ => [(0, v0_), (3, .pointer (some ⟨b1, 0, none⟩)), (7, .int .i64 (p0.length : Int)), (8, .int .i64 s2)]) (fun s2 _ => [.rd v0_ p0, .bx b1 40 [.int .i64 p1.Left, .int .i64 p1.Bottom, .int .i64 p1.Right, .int .i64 p1.Top]]) 0 () ⟨rfl, rfl, rfl, rfl, trivial⟩ [1, 0] rfl rfl (fun s2 g3 => ?_) (fun s2 g3 => ?_)
  · unfold F_slices_Index_Simpl_Tile_impl_Tile_L1
    refine J_seq ?_
    refine J_region ?_
    refine JL_q (wants_none rfl) rfl (ex_lss rfl rfl) ?_
    refine JL_nil ?_
    refine N_then ?_
    refine J_seq ?_
    refine J_if rfl (fun h4 => ?_) (fun h4 => ?_)
    · refine J_skip ?_
      refine N_then ?_
      refine J_seq ?_
      refine J_block ?_
      refine J_seq ?_
      refine J_region ?_
      refine JL_q (wants_none rfl) rfl (ex_move rfl) ?_
      refine JL_q (wants_none rfl) rfl (ex_assign rfl) ?_
      refine JL_nil ?_
      refine N_then ?_
      refine J_seq ?_
      refine J_draw [] (by kernel_rfl) ?_
      refine JP_take (i := 0) [0, 1] [] rfl (by kernel_rfl) (by kernel_rfl) (by kernel_rfl) rfl rfl (wants_none rfl) rfl (ex_load_bx_agg 1 ti_40 rfl rfl rfl rfl) ?_
      refine JP_take (i := 1) [0, 1] [] rfl (by kernel_rfl) (by kernel_rfl) (by kernel_rfl) rfl rfl (wants_none rfl) rfl (ex_move rfl) ?_
      refine JP_take (i := 2) [0, 1] [] rfl (by kernel_rfl) (by kernel_rfl) (by kernel_rfl) rfl rfl (wants_none rfl) rfl (ex_move rfl) ?_
      refine JP_bnd fun y5 hy6 => ?_
      refine JP_sq (i := 3) [] rfl (by kernel_rfl) (by kernel_rfl) (by kernel_rfl) rfl (wants_none rfl) rfl (sq_index 0 Tryd.underlying25 ti_40 rfl rfl rfl hy6) (fun q7 => ?_)
      refine JP_sq (i := 4) [] rfl (by kernel_rfl) (by kernel_rfl) (by kernel_rfl) rfl (wants_none rfl) rfl (sq_load_pt_o 0 (GTile.opens _) ti_40 rfl rfl) (fun _ => ?_)
      refine JP_take (i := 5) [0, 1, 2] [] rfl (by kernel_rfl) (by kernel_rfl) (by kernel_rfl) rfl rfl (wants_none rfl) rfl (ex_eql_seq_40 rfl rfl) ?_
      refine JP_go [] [] rfl rfl rfl (fun _ _ _ => ?_)
      refine JD_done (by kernel_rfl) ?_
      refine N_then ?_
      refine J_if rfl (fun h9 => ?_) (fun h9 => ?_)
      · refine J_seq ?_
        refine J_region ?_
        refine JL_q (wants_none rfl) rfl (ex_move rfl) ?_
        refine JL_q (wants_none rfl) rfl (ex_assign rfl) ?_
        refine JL_nil ?_
        refine N_then ?_
        refine J_ret ?_
        refine N_block_ret ?_
        refine N_then_ret ?_
        refine N_round_ret ?_
        refine N_then_ret ?_
        exact N_ret1 rfl (rv_tmp rfl) (fun w hh => ⟨(), rfl, hh.sel [] rfl⟩)
      · refine J_skip ?_
        refine N_block ?_
        refine N_then ?_
        refine J_region ?_
        refine JL_q (wants_none rfl) rfl (ex_add rfl rfl) ?_
        refine JL_q (wants_none rfl) rfl (ex_move rfl) ?_
        refine JL_nil ?_
        exact N_next' () ⟨rfl, rfl, rfl, rfl, trivial⟩ [1, 2] rfl rfl
    · refine J_exit ?_
      refine N_then_exit ?_
      exact N_break' () ⟨rfl, rfl, rfl, rfl, trivial⟩ [0, 1] rfl rfl
  · refine N_then ?_
    refine J_seq ?_
    refine J_region ?_
    refine JL_q (wants_none rfl) rfl (ex_assign rfl) ?_
    refine JL_nil ?_
    refine N_then ?_
    refine J_ret ?_
    exact N_ret1 rfl (rv_tmp rfl) (fun w hh => ⟨(), rfl, hh.sel [] rfl⟩)

set_option maxHeartbeats 40000000 in
theorem c_impl_ValidTiles (A : Nat → Prop) (w : World) (hA : ∀ k, A k → k < w.heap.size) (v0_ : Value) (p0 : (List GTile)) (hp0 : Rd A w v0_ p0) (r : Bool) (hr : F_impl_ValidTiles p0 = some r) :
    Con Tryd.prog 23 [v0_] A w (fun x_ : Unit => .bool r) (fun x_ => []) := by
  refine Con_of (v := fun (r : Bool) (x_ : Unit) => .bool r) (fs := fun r x_ => []) Tryd.func23 rfl Tryd.ntmps23 rfl ((SH.start hA).start_rd rfl hp0) rfl ?_ hr
  unfold F_impl_ValidTiles
  refine J_seq ?_
  refine J_region ?_
  refine JL_q (wants_none rfl) rfl (ex_assign rfl) ?_
  refine JL_nil ?_
  refine N_then ?_
  refine J_seq ?_
  refine J_seq ?_
  refine J_region ?_
  refine JL_q (wants_none rfl) rfl (ex_move rfl) ?_
  refine JL_bnd fun r1 hr2 => ?_
  refine JL_call (wants_none rfl) rfl Tryd.call44 rfl (Ca_of0 fun w hh => c_impl_size_impl_Tile _ w (fun _ hk => hk.elim) _ _ (hh.rd0 0 rfl) _ hr2) (fun _ => ?_)
  refine JL_bnd fun r3 hr4 => ?_
  refine JL_call (wants_none rfl) rfl Tryd.call43 rfl (Ca_of0 fun w hh => c_impl_within _ w (fun _ hk => hk.elim) _ _ _ _ hr4) (fun _ => ?_)
  refine JL_q (wants_none rfl) rfl (ex_not rfl) ?_
  refine JL_nil ?_
  refine N_then ?_
  refine J_if rfl (fun h5 => ?_) (fun h5 => ?_)
  · refine J_seq ?_
    refine J_region ?_
    refine JL_q (wants_none rfl) rfl (ex_assign rfl) ?_
    refine JL_nil ?_
    refine N_then ?_
    refine J_ret ?_
    refine N_then_ret ?_
    exact N_ret1 rfl (rv_tmp rfl) (fun w hh => ⟨(), rfl, hh.sel [] rfl⟩)
  · refine J_skip ?_
    refine N_then ?_
    refine J_seq ?_
    refine J_seq ?_
    refine J_region ?_
    refine JL_q (wants_none rfl) rfl (ex_move rfl) ?_
    refine JL_q (wants_none rfl) rfl (ex_len_rd 0 Tryd.underlying25 rfl rfl) ?_
    refine JL_q (wants_none rfl) rfl (ex_move rfl) ?_
    refine JL_nil ?_
    refine N_then ?_
    refine J_loop' (S := Int) (G := Unit) (F_impl_ValidTiles_L1 p0) (fun s6 _ => [(0, v0_), (9, v0_), (10, .int .i64 (p0.length : Int)), (11, .int .i64 s6)]) (fun s6 _ => [.rd v0_ p0]) 0 () ⟨rfl, rfl, rfl, rfl, trivial⟩ [0] rfl rfl (fun s6 g7 => ?_) (fun s6 g7 => ?_)
    · unfold F_impl_ValidTiles_L1
      refine J_seq ?_
      refine J_region ?_
      refine JL_q (wants_none rfl) rfl (ex_lss rfl rfl) ?_
      refine JL_nil ?_
      refine N_then ?_
      refine J_seq ?_
      refine J_if rfl (fun h8 => ?_) (fun h8 => ?_)
      · refine J_skip ?_
        refine N_then ?_
        refine J_seq ?_
        refine J_block ?_
        refine J_seq ?_
        refine J_region ?_
        refine JL_q (wants_none rfl) rfl (ex_move rfl) ?_
        refine JL_bnd fun y9 hy10 => ?_
        refine JL_st (wants_none rfl) rfl (st_index 0 Tryd.underlying25 ti_40 rfl rfl rfl hy10) (fun q11 => ?_)
        refine JL_st (wants_none rfl) rfl (st_load_pt_o 0 (GTile.opens _) ti_40 rfl rfl) (fun _ => ?_)
        refine JL_st (wants_none rfl) rfl (st_alloc zi_40 rfl) (fun b13 => ?_)
        refine JL_q (wants_none rfl) rfl (ex_assign rfl) ?_
        refine JL_sk (wants_none rfl) (sk_store_bx' 0 ti_40 rfl rfl (fun w hh => (cv_aggs ⟨cv_int, cv_int, cv_int, cv_int, trivial⟩)) rfl rfl rfl rfl) ?_
        refine JL_nil ?_
        refine N_then ?_
        refine J_seq ?_
        refine J_region ?_
        refine JL_q (wants_none rfl) rfl (ex_fieldAddr fi_40_0 rfl rfl) ?_
        refine JL_q (wants_none rfl) rfl (ex_load_bx 0 ti_2 rfl rfl rfl) ?_
        refine JL_q (wants_none rfl) rfl (ex_fieldAddr fi_40_1 rfl rfl) ?_
        refine JL_q (wants_none rfl) rfl (ex_load_bx 0 ti_2 rfl rfl rfl) ?_
        refine JL_q (wants_none rfl) rfl (ex_fieldAddr fi_40_2 rfl rfl) ?_
        refine JL_q (wants_none rfl) rfl (ex_load_bx 0 ti_2 rfl rfl rfl) ?_
        refine JL_q (wants_none rfl) rfl (ex_fieldAddr fi_40_3 rfl rfl) ?_
        refine JL_q (wants_none rfl) rfl (ex_load_bx 0 ti_2 rfl rfl rfl) ?_
        refine JL_st (wants_none rfl) rfl (st_buildSlice (vs := [.int .i64 y9.Left, .int .i64 y9.Bottom, .int .i64 y9.Right, .int .i64 y9.Top]) ([y9.Left, y9.Bottom, y9.Right, y9.Top] : List Int) Tryd.underlying45 ti_2 zi_2 rfl rfl rfl (fun w hh => ⟨(Rd.mk_int _ _ _), (Rd.mk_int _ _ _), (Rd.mk_int _ _ _), (Rd.mk_int _ _ _), trivial⟩)) (fun b14 => ?_)
        refine JL_bnd fun r15 hr16 => ?_
        refine JL_call (wants_none rfl) rfl Tryd.call45 rfl (Ca_of0 fun w hh => c_impl_colorsOk _ w (fun _ hk => hk.elim) _ _ (hh.ow0 0 rfl) _ hr16) (fun _ => ?_)
        refine JL_q (wants_none rfl) rfl (ex_not rfl) ?_
        refine JL_q (wants_none rfl) rfl (ex_move rfl) ?_
        refine JL_cond (fun h17 => ?_) (fun h17 => ?_)
        · refine JL_passed rfl rfl rfl h17 ?_
          refine JL_passed rfl rfl rfl h17 ?_
          refine JL_passed rfl rfl rfl h17 ?_
          refine JL_passed rfl rfl rfl h17 ?_
          refine JL_passed rfl rfl rfl h17 ?_
          refine JL_q (wants_none rfl) rfl (ex_pick_true rfl h17 rfl) ?_
          refine JL_nil ?_
          refine N_then ?_
          refine J_if_true rfl rfl ?_
          refine J_seq ?_
          refine J_region ?_
          refine JL_q (wants_none rfl) rfl (ex_assign rfl) ?_
          refine JL_nil ?_
          refine N_then ?_
          refine J_ret ?_
          refine N_block_ret ?_
          refine N_then_ret ?_
          refine N_round_ret ?_
          refine N_then_ret ?_
          exact N_ret1 rfl (rv_tmp rfl) (fun w hh => ⟨(), rfl, hh.sel [] rfl⟩)
        · refine JL_q (wants_some rfl rfl rfl h17) rfl (ex_move rfl) ?_
          refine JL_q (wants_some rfl rfl rfl h17) rfl (ex_load_bx_agg 1 ti_40 rfl rfl rfl rfl) ?_
          refine JL_bnd fun r18 hr19 => ?_
          refine JL_call (wants_some rfl rfl rfl h17) rfl Tryd.call46 rfl (Ca_of0 fun w hh => c_slices_Index_Simpl_Tile_impl_Tile _ w (fun _ hk => hk.elim) _ _ (hh.rd0 3 rfl) _ _ (GTile.rdmk (Rd.mk_int _ _ _) (Rd.mk_int _ _ _) (Rd.mk_int _ _ _) (Rd.mk_int _ _ _)) _ hr19) (fun _ => ?_)
          refine JL_q (wants_some rfl rfl rfl h17) rfl (ex_move rfl) ?_
          refine JL_q (wants_some rfl rfl rfl h17) rfl (ex_neq rfl rfl) ?_
          refine JL_q (wants_none rfl) rfl (ex_pick_false rfl h17 rfl) ?_
          refine JL_nil ?_
          refine N_then ?_
          refine J_if rfl (fun h20 => ?_) (fun h20 => ?_)
          · refine J_seq ?_
            refine J_region ?_
            refine JL_q (wants_none rfl) rfl (ex_assign rfl) ?_
            refine JL_nil ?_
            refine N_then ?_
            refine J_ret ?_
            refine N_block_ret ?_
            refine N_then_ret ?_
            refine N_round_ret ?_
            refine N_then_ret ?_
            exact N_ret1 rfl (rv_tmp rfl) (fun w hh => ⟨(), rfl, hh.sel [] rfl⟩)
          · refine J_skip ?_
            refine N_block ?_
            refine N_then ?_
            refine J_region ?_
            refine JL_q (wants_none rfl) rfl (ex_add rfl rfl) ?_
            refine JL_q (wants_none rfl) rfl (ex_move rfl) ?_
            refine JL_nil ?_
            exact N_next' () ⟨rfl, rfl, rfl, rfl, trivial⟩ [3] rfl rfl
      · refine J_exit ?_
        refine N_then_exit ?_
        exact N_break' () ⟨rfl, rfl, rfl, rfl, trivial⟩ [0] rfl rfl
    · refine N_then ?_
      refine J_seq ?_
      refine J_region ?_
      refine JL_q (wants_none rfl) rfl (ex_assign rfl) ?_
      refine JL_nil ?_
      refine N_then ?_
      refine J_ret ?_
      exact N_ret1 rfl (rv_tmp rfl) (fun w hh => ⟨(), rfl, hh.sel [] rfl⟩)

set_option maxHeartbeats 40000000 in
theorem c_internal_strconv_small (A : Nat → Prop) (w : World) (hA : ∀ k, A k → k < w.heap.size) (p0 : Int) (r : ByteArray) (hr : F_internal_strconv_small p0 = some r) :
    Con Tryd.prog 95 [.int .i64 p0] A w (fun x_ : Unit => .string r) (fun x_ => []) := by
  refine Con_of (v := fun (r : ByteArray) (x_ : Unit) => .string r) (fs := fun r x_ => []) Tryd.func95 rfl Tryd.ntmps95 rfl (SH.start hA) rfl ?_ hr
  unfold F_internal_strconv_small
  refine J_seq ?_
  refine J_region ?_
  refine JL_q (wants_none rfl) rfl (ex_assign rfl) ?_
  refine JL_nil ?_
  refine N_then ?_
  refine J_seq ?_
  refine J_seq ?_
  refine J_region ?_
  refine JL_q (wants_none rfl) rfl (ex_move rfl) ?_
  refine JL_q (wants_none rfl) rfl (ex_lss rfl rfl) ?_
  refine JL_nil ?_
  refine N_then ?_
  refine J_if rfl (fun h1 => ?_) (fun h1 => ?_)
  · refine J_seq ?_
    refine J_region ?_
    refine JL_q (wants_none rfl) rfl (ex_move rfl) ?_
    refine JL_q (wants_none rfl) rfl (ex_move rfl) ?_
    refine JL_q (wants_none rfl) rfl (ex_add rfl rfl) ?_
    refine JL_bnd fun z2 hz3 => ?_
    refine JL_q (wants_none rfl) rfl (ex_slice_str Tryd.underlying9 rfl rfl rfl hz3) ?_
    refine JL_q (wants_none rfl) rfl (ex_assign rfl) ?_
    refine JL_nil ?_
    refine N_then ?_
    refine J_ret ?_
    refine N_then_ret ?_
    exact N_ret1 rfl (rv_tmp rfl) (fun w hh => ⟨(), rfl, hh.sel [] rfl⟩)
  · refine J_skip ?_
    refine N_then ?_
    refine J_seq ?_
    refine J_region ?_
    refine JL_q (wants_none rfl) rfl (ex_move rfl) ?_
    refine JL_q (wants_none rfl) rfl (ex_mul rfl rfl) ?_
    refine JL_q (wants_none rfl) rfl (ex_move rfl) ?_
    refine JL_q (wants_none rfl) rfl (ex_mul rfl rfl) ?_
    refine JL_q (wants_none rfl) rfl (ex_add rfl rfl) ?_
    refine JL_bnd fun z4 hz5 => ?_
    refine JL_q (wants_none rfl) rfl (ex_slice_str Tryd.underlying9 rfl rfl rfl hz5) ?_
    refine JL_q (wants_none rfl) rfl (ex_assign rfl) ?_
    refine JL_nil ?_
    refine N_then ?_
    refine J_ret ?_
    exact N_ret1 rfl (rv_tmp rfl) (fun w hh => ⟨(), rfl, hh.sel [] rfl⟩)

set_option maxHeartbeats 40000000 in
theorem c_math_bits_Len64 (A : Nat → Prop) (w : World) (hA : ∀ k, A k → k < w.heap.size) (p0 : (Ik .u64)) (r : Int) (hr : F_math_bits_Len64 p0 = some r) :
    Con Tryd.prog 109 [.int .u64 p0.val] A w (fun x_ : Unit => .int .i64 r) (fun x_ => []) := by
  refine Con_of (v := fun (r : Int) (x_ : Unit) => .int .i64 r) (fs := fun r x_ => []) Tryd.func109 rfl Tryd.ntmps109 rfl (SH.start hA) rfl ?_ hr
  unfold F_math_bits_Len64
  refine J_seq ?_
  refine J_region ?_
  refine JL_q (wants_none rfl) rfl (ex_assign rfl) ?_
  refine JL_nil ?_
  refine N_then ?_
  refine J_seq ?_
  refine J_cut' (S' := (Ik .u64) × Int) (G' := Unit) (fun s1 _ => [(0, .int .u64 s1.1.val), (2, .int .i64 s1.2)]) (fun s1 _ => []) ?_ (fun s1 g2 => ?_)
  · refine J_seq ?_
    refine J_region ?_
    refine JL_q (wants_none rfl) rfl (ex_move rfl) ?_
    refine JL_q (wants_none rfl) rfl (ex_geq rfl rfl) ?_
    refine JL_nil ?_
    refine N_then ?_
    refine J_if rfl (fun h3 => ?_) (fun h3 => ?_)
    · refine J_seq ?_
      refine J_region ?_
      refine JL_q (wants_none rfl) rfl (ex_move rfl) ?_
      refine JL_q (wants_none rfl) rfl (ex_shrk rfl rfl (by decide)) ?_
      refine JL_q (wants_none rfl) rfl (ex_assign rfl) ?_
      refine JL_nil ?_
      refine N_then ?_
      refine J_region ?_
      refine JL_q (wants_none rfl) rfl (ex_assign rfl) ?_
      refine JL_nil ?_
      exact N_meet' () ⟨rfl, rfl, trivial⟩ [] rfl rfl
    · refine J_skip ?_
      exact N_meet' () ⟨rfl, rfl, trivial⟩ [] rfl rfl
  · refine N_then ?_
    refine J_seq ?_
    refine J_cut' (S' := (Ik .u64) × Int) (G' := Unit) (fun s4 _ => [(0, .int .u64 s4.1.val), (2, .int .i64 s4.2)]) (fun s4 _ => []) ?_ (fun s4 g5 => ?_)
    · refine J_seq ?_
      refine J_region ?_
      refine JL_q (wants_none rfl) rfl (ex_move rfl) ?_
      refine JL_q (wants_none rfl) rfl (ex_geq rfl rfl) ?_
      refine JL_nil ?_
      refine N_then ?_
      refine J_if rfl (fun h6 => ?_) (fun h6 => ?_)
      · refine J_seq ?_
        refine J_region ?_
        refine JL_q (wants_none rfl) rfl (ex_move rfl) ?_
        refine JL_q (wants_none rfl) rfl (ex_shrk rfl rfl (by decide)) ?_
        refine JL_q (wants_none rfl) rfl (ex_assign rfl) ?_
        refine JL_nil ?_
        refine N_then ?_
        refine J_region ?_
        refine JL_q (wants_none rfl) rfl (ex_move rfl) ?_
        refine JL_q (wants_none rfl) rfl (ex_add rfl rfl) ?_
        refine JL_q (wants_none rfl) rfl (ex_assign rfl) ?_
        refine JL_nil ?_
        exact N_meet' () ⟨rfl, rfl, trivial⟩ [] rfl rfl
      · refine J_skip ?_
        exact N_meet' () ⟨rfl, rfl, trivial⟩ [] rfl rfl
    · refine N_then ?_
      refine J_seq ?_
      refine J_seq ?_
      refine J_region ?_
      refine JL_q (wants_none rfl) rfl (ex_move rfl) ?_
      refine JL_q (wants_none rfl) rfl (ex_geq rfl rfl) ?_
      refine JL_nil ?_
      refine N_then ?_
      refine J_if rfl (fun h7 => ?_) (fun h7 => ?_)
      · refine J_seq ?_
        refine J_region ?_
        refine JL_q (wants_none rfl) rfl (ex_move rfl) ?_
        refine JL_q (wants_none rfl) rfl (ex_shrk rfl rfl (by decide)) ?_
        refine JL_q (wants_none rfl) rfl (ex_assign rfl) ?_
        refine JL_nil ?_
        refine N_then ?_
        refine J_region ?_
        refine JL_q (wants_none rfl) rfl (ex_move rfl) ?_
        refine JL_q (wants_none rfl) rfl (ex_add rfl rfl) ?_
        refine JL_q (wants_none rfl) rfl (ex_assign rfl) ?_
        refine JL_nil ?_
        refine N_then ?_
        refine J_seq ?_
        refine J_region ?_
        refine JL_q (wants_none rfl) rfl (ex_move rfl) ?_
        refine JL_q (wants_none rfl) rfl (ex_move rfl) ?_
        refine JL_q (wants_none rfl) rfl (ex_conv_ik Tryd.underlying113 Tryd.underlying5 rfl) ?_
        refine JL_bnd fun y8 hy9 => ?_
        refine JL_q (wants_none rfl) rfl (ex_index_str Tryd.underlying9 rfl rfl hy9) ?_
        refine JL_q (wants_none rfl) rfl (ex_conv_i64 Tryd.underlying5 Tryd.underlying3 rfl) ?_
        refine JL_q (wants_none rfl) rfl (ex_add rfl rfl) ?_
        refine JL_q (wants_none rfl) rfl (ex_assign rfl) ?_
        refine JL_nil ?_
        refine N_then ?_
        refine J_ret ?_
        exact N_ret1 rfl (rv_tmp rfl) (fun w hh => ⟨(), rfl, hh.sel [] rfl⟩)
      · refine J_skip ?_
        refine N_then ?_
        refine J_seq ?_
        refine J_region ?_
        refine JL_q (wants_none rfl) rfl (ex_move rfl) ?_
        refine JL_q (wants_none rfl) rfl (ex_move rfl) ?_
        refine JL_q (wants_none rfl) rfl (ex_conv_ik Tryd.underlying113 Tryd.underlying5 rfl) ?_
        refine JL_bnd fun y10 hy11 => ?_
        refine JL_q (wants_none rfl) rfl (ex_index_str Tryd.underlying9 rfl rfl hy11) ?_
        refine JL_q (wants_none rfl) rfl (ex_conv_i64 Tryd.underlying5 Tryd.underlying3 rfl) ?_
        refine JL_q (wants_none rfl) rfl (ex_add rfl rfl) ?_
        refine JL_q (wants_none rfl) rfl (ex_assign rfl) ?_
        refine JL_nil ?_
        refine N_then ?_
        refine J_ret ?_
        exact N_ret1 rfl (rv_tmp rfl) (fun w hh => ⟨(), rfl, hh.sel [] rfl⟩)

set_option maxHeartbeats 40000000 in
theorem c_internal_strconv_log10Pow2 (A : Nat → Prop) (w : World) (hA : ∀ k, A k → k < w.heap.size) (p0 : Int) (r : Int) (hr : F_internal_strconv_log10Pow2 p0 = some r) :
    Con Tryd.prog 108 [.int .i64 p0] A w (fun x_ : Unit => .int .i64 r) (fun x_ => []) := by
  refine Con_of (v := fun (r : Int) (x_ : Unit) => .int .i64 r) (fs := fun r x_ => []) Tryd.func108 rfl Tryd.ntmps108 rfl (SH.start hA) rfl ?_ hr
  unfold F_internal_strconv_log10Pow2
  refine J_seq ?_
  refine J_region ?_
  refine JL_q (wants_none rfl) rfl (ex_assign rfl) ?_
  refine JL_nil ?_
  refine N_then ?_
  refine J_seq ?_
  refine J_region ?_
  refine JL_q (wants_none rfl) rfl (ex_move rfl) ?_
  refine JL_q (wants_none rfl) rfl (ex_mul rfl rfl) ?_
  refine JL_q (wants_none rfl) rfl (ex_shr rfl rfl (by decide)) ?_
  refine JL_q (wants_none rfl) rfl (ex_assign rfl) ?_
  refine JL_nil ?_
  refine N_then ?_
  refine J_ret ?_
  exact N_ret1 rfl (rv_tmp rfl) (fun w hh => ⟨(), rfl, hh.sel [] rfl⟩)

set_option maxHeartbeats 40000000 in
theorem c_internal_strconv_bool2_int (A : Nat → Prop) (w : World) (hA : ∀ k, A k → k < w.heap.size) (p0 : Bool) (r : Int) (hr : F_internal_strconv_bool2_int p0 = some r) :
    Con Tryd.prog 110 [.bool p0] A w (fun x_ : Unit => .int .i64 r) (fun x_ => []) := by
  refine Con_of (v := fun (r : Int) (x_ : Unit) => .int .i64 r) (fs := fun r x_ => []) Tryd.func110 rfl Tryd.ntmps110 rfl (SH.start hA) rfl ?_ hr
  unfold F_internal_strconv_bool2_int
  refine J_seq ?_
  refine J_region ?_
  refine JL_q (wants_none rfl) rfl (ex_assign rfl) ?_
  refine JL_nil ?_
  refine N_then ?_
  refine J_seq ?_
  refine J_seq ?_
  refine J_region ?_
  refine JL_q (wants_none rfl) rfl (ex_move rfl) ?_
  refine JL_nil ?_
  refine N_then ?_
  refine J_if rfl (fun h1 => ?_) (fun h1 => ?_)
  · refine J_seq ?_
    refine J_region ?_
    refine JL_q (wants_none rfl) rfl (ex_assign rfl) ?_
    refine JL_nil ?_
    refine N_then ?_
    refine J_ret ?_
    refine N_then_ret ?_
    exact N_ret1 rfl (rv_tmp rfl) (fun w hh => ⟨(), rfl, hh.sel [] rfl⟩)
  · refine J_skip ?_
    refine N_then ?_
    refine J_seq ?_
    refine J_region ?_
    refine JL_q (wants_none rfl) rfl (ex_assign rfl) ?_
    refine JL_nil ?_
    refine N_then ?_
    refine J_ret ?_
    exact N_ret1 rfl (rv_tmp rfl) (fun w hh => ⟨(), rfl, hh.sel [] rfl⟩)

set_option maxHeartbeats 40000000 in
theorem c_internal_strconv_isPowerOfTwo (A : Nat → Prop) (w : World) (hA : ∀ k, A k → k < w.heap.size) (p0 : Int) (r : Bool) (hr : F_internal_strconv_isPowerOfTwo p0 = some r) :
    Con Tryd.prog 111 [.int .i64 p0] A w (fun x_ : Unit => .bool r) (fun x_ => []) := by
  refine Con_of (v := fun (r : Bool) (x_ : Unit) => .bool r) (fs := fun r x_ => []) Tryd.func111 rfl Tryd.ntmps111 rfl (SH.start hA) rfl ?_ hr
  unfold F_internal_strconv_isPowerOfTwo
  refine J_seq ?_
  refine J_region ?_
  refine JL_q (wants_none rfl) rfl (ex_assign rfl) ?_
  refine JL_nil ?_
  refine N_then ?_
  refine J_seq ?_
  refine J_region ?_
  refine JL_q (wants_none rfl) rfl (ex_move rfl) ?_
  refine JL_q (wants_none rfl) rfl (ex_move rfl) ?_
  refine JL_q (wants_none rfl) rfl (ex_sub rfl rfl) ?_
  refine JL_q (wants_none rfl) rfl (ex_and rfl rfl) ?_
  refine JL_q (wants_none rfl) rfl (ex_eql rfl rfl) ?_
  refine JL_q (wants_none rfl) rfl (ex_assign rfl) ?_
  refine JL_nil ?_
  refine N_then ?_
  refine J_ret ?_
  exact N_ret1 rfl (rv_tmp rfl) (fun w hh => ⟨(), rfl, hh.sel [] rfl⟩)

theorem c_strconv_FormatInt (A : Nat → Prop) (w : World) (hA : ∀ k, A k → k < w.heap.size) (hT_ : Tab Tryd.prog w) (p0 p1 : Int) (r : ByteArray) (hr : fmtG p0 p1 = some r) :
    Con Tryd.prog 67 [.int .i64 p0, .int .i64 p1] A w (fun _ : Unit => .string r) (fun _ => []) := con_fmt (fun n h0 h1 w ht => Go.Proofs.Tryd.strconv_FormatInt_10 n h0 h1 w ht) A w hA hT_ p0 p1 r hr

set_option maxHeartbeats 40000000 in
theorem c_impl_Decimal (A : Nat → Prop) (w : World) (hA : ∀ k, A k → k < w.heap.size) (hT_ : Tab Tryd.prog w) (p0 : Int) (r : ByteArray) (hr : F_impl_Decimal p0 = some r) :
    Con Tryd.prog 47 [.int .i64 p0] A w (fun x_ : Unit => .string r) (fun x_ => []) := by
  refine Con_of (v := fun (r : ByteArray) (x_ : Unit) => .string r) (fs := fun r x_ => []) Tryd.func47 rfl Tryd.ntmps47 rfl (SH.start hA) rfl ?_ hr
  unfold F_impl_Decimal
  refine J_seq ?_
  refine J_region ?_
  refine JL_q (wants_none rfl) rfl (ex_assign rfl) ?_
  refine JL_nil ?_
  refine N_then ?_
  refine J_seq ?_
  refine J_region ?_
  refine JL_q (wants_none rfl) rfl (ex_move rfl) ?_
  refine JL_bnd fun r1 hr2 => ?_
  refine JL_call (wants_none rfl) rfl Tryd.call67 rfl (Ca_of0 fun w hh => c_strconv_FormatInt _ w (fun _ hk => hk.elim) (Tab.of hT_ hh) _ _ _ hr2) (fun _ => ?_)
  refine JL_q (wants_none rfl) rfl (ex_assign rfl) ?_
  refine JL_nil ?_
  refine N_then ?_
  refine J_ret ?_
  exact N_ret1 rfl (rv_tmp rfl) (fun w hh => ⟨(), rfl, hh.sel [] rfl⟩)

theorem c_strings_Join (A : Nat → Prop) (w : World) (hA : ∀ k, A k → k < w.heap.size) (v0_ : Value) (p0 : List ByteArray) (hp0 : Rd A w v0_ p0) (p1 : ByteArray) (r : ByteArray) (hr : joinG p0 p1 = some r) :
    Con Tryd.prog 25 [v0_, .string p1] A w (fun _ : Unit => .string r) (fun _ => []) := con_join ⟨Go.Proofs.Tryd.strings_Join_none, Go.Proofs.Tryd.strings_Join⟩ A w hA v0_ p0 hp0 p1 r hr

set_option maxHeartbeats 40000000 in
theorem c_impl_decimals (A : Nat → Prop) (w : World) (hA : ∀ k, A k → k < w.heap.size) (hT_ : Tab Tryd.prog w) (v0_ : Value) (p0 : (List Int)) (hp0 : Rd A w v0_ p0) (p1 : ByteArray) (r : ByteArray) (hr : F_impl_decimals p0 p1 = some r) :
    Con Tryd.prog 24 [v0_, .string p1] A w (fun x_ : Unit => .string r) (fun x_ => []) := by
  refine Con_of (v := fun (r : ByteArray) (x_ : Unit) => .string r) (fs := fun r x_ => []) Tryd.func24 rfl Tryd.ntmps24 rfl ((SH.start hA).start_rd rfl hp0) rfl ?_ hr
  unfold F_impl_decimals
  refine J_seq ?_
  refine J_region ?_
  refine JL_q (wants_none rfl) rfl (ex_assign rfl) ?_
  refine JL_nil ?_
  refine N_then ?_
  refine J_seq ?_
  refine J_region ?_
  refine JL_st (wants_none rfl) rfl (st_buildSlice (vs := []) ([] : List ByteArray) Tryd.underlying43 ti_9 zi_9 rfl rfl rfl (fun w hh => trivial)) (fun b1 => ?_)
  refine JL_q (wants_none rfl) rfl (ex_assign rfl) ?_
  refine JL_nil ?_
  refine N_then ?_
  refine J_seq ?_
  refine J_seq ?_
  refine J_region ?_
  refine JL_q (wants_none rfl) rfl (ex_move rfl) ?_
  refine JL_q (wants_none rfl) rfl (ex_len_rd 1 Tryd.underlying45 rfl rfl) ?_
  refine JL_q (wants_none rfl) rfl (ex_move rfl) ?_
  refine JL_nil ?_
  refine N_then ?_
  refine J_loop' (S := (List ByteArray) × Int) (G := Value) (F_impl_decimals_L1 p0) (fun s2 g3 => [(1, .string p1), (5, g3), (9, v0_), (10, .int .i64 (p0.length : Int)), (11, .int .i64 s2.2)]) (fun s2 g3 => [.ow 9 g3 s2.1, .rd v0_ p0]) (([] : List ByteArray), 0) (.slice (some ⟨b1, 0, none⟩) 0 0) ⟨rfl, rfl, rfl, rfl, rfl, trivial⟩ [0, 1] rfl rfl (fun s2 g3 => ?_) (fun s2 g3 => ?_)
  · unfold F_impl_decimals_L1
    refine J_seq ?_
    refine J_region ?_
    refine JL_q (wants_none rfl) rfl (ex_lss rfl rfl) ?_
    refine JL_nil ?_
    refine N_then ?_
    refine J_seq ?_
    refine J_if rfl (fun h4 => ?_) (fun h4 => ?_)
    · refine J_skip ?_
      refine N_then ?_
      refine J_seq ?_
      refine J_block ?_
      refine J_seq ?_
      refine J_region ?_
      refine JL_bnd fun y5 hy6 => ?_
      refine JL_st (wants_none rfl) rfl (st_index 1 Tryd.underlying45 ti_2 rfl rfl rfl hy6) (fun q7 => ?_)
      refine JL_st (wants_none rfl) rfl (st_load_pt_o 0 (opens_int _) ti_2 rfl rfl) (fun _ => ?_)
      refine JL_q (wants_none rfl) rfl (ex_assign rfl) ?_
      refine JL_nil ?_
      refine N_then ?_
      refine J_region ?_
      refine JL_q (wants_none rfl) rfl (ex_move rfl) ?_
      refine JL_q (wants_none rfl) rfl (ex_move rfl) ?_
      refine JL_bnd fun r9 hr10 => ?_
      refine JL_call (wants_none rfl) rfl Tryd.call47 rfl (Ca_of0 fun w hh => c_impl_Decimal _ w (fun _ hk => hk.elim) (Tab.of hT_ hh) _ _ hr10) (fun _ => ?_)
      refine JL_st (wants_none rfl) rfl (st_buildSlice (vs := [.string r9]) ([r9] : List ByteArray) Tryd.underlying43 ti_9 zi_9 rfl rfl rfl (fun w hh => ⟨(Rd.mk_str _ _ _), trivial⟩)) (fun b11 => ?_)
      refine JL_bnd fun z12 hz13 => ?_
      refine JL_st (wants_none rfl) rfl (st_append 2 Tryd.underlying43 ti_9 zi_9 rfl bi_9 rfl rfl rfl rfl (fun w hh => hh.src_ow 0 rfl) hz13) (fun v14 => ?_)
      refine JL_q (wants_none rfl) rfl (ex_assign rfl) ?_
      refine JL_nil ?_
      refine N_block ?_
      refine N_then ?_
      refine J_region ?_
      refine JL_q (wants_none rfl) rfl (ex_add rfl rfl) ?_
      refine JL_q (wants_none rfl) rfl (ex_move rfl) ?_
      refine JL_nil ?_
      exact N_next' v14 ⟨rfl, rfl, rfl, rfl, rfl, trivial⟩ [2, 3] rfl rfl
    · refine J_exit ?_
      refine N_then_exit ?_
      exact N_break' g3 ⟨rfl, rfl, rfl, rfl, rfl, trivial⟩ [0, 1] rfl rfl
  · refine N_then ?_
    refine J_seq ?_
    refine J_region ?_
    refine JL_q (wants_none rfl) rfl (ex_move rfl) ?_
    refine JL_q (wants_none rfl) rfl (ex_move rfl) ?_
    refine JL_bnd fun r15 hr16 => ?_
    refine JL_call (wants_none rfl) rfl Tryd.call25 rfl (Ca_of0 fun w hh => c_strings_Join _ w (fun _ hk => hk.elim) _ _ (hh.ow0 0 rfl) _ _ hr16) (fun _ => ?_)
    refine JL_q (wants_none rfl) rfl (ex_assign rfl) ?_
    refine JL_nil ?_
    refine N_then ?_
    refine J_ret ?_
    exact N_ret1 rfl (rv_tmp rfl) (fun w hh => ⟨(), rfl, hh.sel [] rfl⟩)

set_option maxHeartbeats 40000000 in
theorem c_impl_TilesText (A : Nat → Prop) (w : World) (hA : ∀ k, A k → k < w.heap.size) (hT_ : Tab Tryd.prog w) (v0_ : Value) (p0 : (List GTile)) (hp0 : Rd A w v0_ p0) (r : ByteArray) (hr : F_impl_TilesText p0 = some r) :
    Con Tryd.prog 9 [v0_] A w (fun x_ : Unit => .string r) (fun x_ => []) := by
  refine Con_of (v := fun (r : ByteArray) (x_ : Unit) => .string r) (fs := fun r x_ => []) Tryd.func9 rfl Tryd.ntmps9 rfl ((SH.start hA).start_rd rfl hp0) rfl ?_ hr
  unfold F_impl_TilesText
  refine J_seq ?_
  refine J_region ?_
  refine JL_q (wants_none rfl) rfl (ex_assign rfl) ?_
  refine JL_nil ?_
  refine N_then ?_
  refine J_seq ?_
  refine J_seq ?_
  refine J_region ?_
  refine JL_q (wants_none rfl) rfl (ex_move rfl) ?_
  refine JL_bnd fun r1 hr2 => ?_
  refine JL_call (wants_none rfl) rfl Tryd.call23 rfl (Ca_of0 fun w hh => c_impl_ValidTiles _ w (fun _ hk => hk.elim) _ _ (hh.rd0 0 rfl) _ hr2) (fun _ => ?_)
  refine JL_q (wants_none rfl) rfl (ex_not rfl) ?_
  refine JL_nil ?_
  refine N_then ?_
  refine J_if rfl (fun h3 => ?_) (fun h3 => ?_)
  · refine J_seq ?_
    refine J_region ?_
    refine JL_q (wants_none rfl) rfl (ex_assign rfl) ?_
    refine JL_nil ?_
    refine N_then ?_
    refine J_ret ?_
    refine N_then_ret ?_
    exact N_ret1 rfl (rv_tmp rfl) (fun w hh => ⟨(), rfl, hh.sel [] rfl⟩)
  · refine J_skip ?_
    refine N_then ?_
    refine J_seq ?_
    refine J_region ?_
    refine JL_st (wants_none rfl) rfl (st_buildSlice (vs := []) ([] : List ByteArray) Tryd.underlying43 ti_9 zi_9 rfl rfl rfl (fun w hh => trivial)) (fun b4 => ?_)
    refine JL_q (wants_none rfl) rfl (ex_assign rfl) ?_
    refine JL_nil ?_
    refine N_then ?_
    refine J_seq ?_
    refine J_seq ?_
    refine J_region ?_
    refine JL_q (wants_none rfl) rfl (ex_move rfl) ?_
    refine JL_q (wants_none rfl) rfl (ex_len_rd 1 Tryd.underlying25 rfl rfl) ?_
    refine JL_q (wants_none rfl) rfl (ex_move rfl) ?_
    refine JL_nil ?_
    refine N_then ?_
    refine J_loop' (S := (List ByteArray) × Int) (G := Value) (F_impl_TilesText_L1 p0) (fun s5 g6 => [(3, g6), (10, v0_), (11, .int .i64 (p0.length : Int)), (12, .int .i64 s5.2)]) (fun s5 g6 => [.ow 9 g6 s5.1, .rd v0_ p0]) (([] : List ByteArray), 0) (.slice (some ⟨b4, 0, none⟩) 0 0) ⟨rfl, rfl, rfl, rfl, trivial⟩ [0, 1] rfl rfl (fun s5 g6 => ?_) (fun s5 g6 => ?_)
    · unfold F_impl_TilesText_L1
      refine J_seq ?_
      refine J_region ?_
      refine JL_q (wants_none rfl) rfl (ex_lss rfl rfl) ?_
      refine JL_nil ?_
      refine N_then ?_
      refine J_seq ?_
      refine J_if rfl (fun h7 => ?_) (fun h7 => ?_)
      · refine J_skip ?_
        refine N_then ?_
        refine J_seq ?_
        refine J_block ?_
        refine J_seq ?_
        refine J_region ?_
        refine JL_bnd fun y8 hy9 => ?_
        refine JL_st (wants_none rfl) rfl (st_index 1 Tryd.underlying25 ti_40 rfl rfl rfl hy9) (fun q10 => ?_)
        refine JL_st (wants_none rfl) rfl (st_load_pt_o 0 (GTile.opens _) ti_40 rfl rfl) (fun _ => ?_)
        refine JL_st (wants_none rfl) rfl (st_alloc zi_40 rfl) (fun b12 => ?_)
        refine JL_sk (wants_none rfl) (sk_store_bx' 0 ti_40 rfl rfl (fun w hh => (cv_aggs ⟨cv_int, cv_int, cv_int, cv_int, trivial⟩)) rfl rfl rfl rfl) ?_
        refine JL_nil ?_
        refine N_then ?_
        refine J_region ?_
        refine JL_q (wants_none rfl) rfl (ex_move rfl) ?_
        refine JL_q (wants_none rfl) rfl (ex_fieldAddr fi_40_0 rfl rfl) ?_
        refine JL_q (wants_none rfl) rfl (ex_load_bx 0 ti_2 rfl rfl rfl) ?_
        refine JL_q (wants_none rfl) rfl (ex_fieldAddr fi_40_1 rfl rfl) ?_
        refine JL_q (wants_none rfl) rfl (ex_load_bx 0 ti_2 rfl rfl rfl) ?_
        refine JL_q (wants_none rfl) rfl (ex_fieldAddr fi_40_2 rfl rfl) ?_
        refine JL_q (wants_none rfl) rfl (ex_load_bx 0 ti_2 rfl rfl rfl) ?_
        refine JL_q (wants_none rfl) rfl (ex_fieldAddr fi_40_3 rfl rfl) ?_
        refine JL_q (wants_none rfl) rfl (ex_load_bx 0 ti_2 rfl rfl rfl) ?_
        refine JL_st (wants_none rfl) rfl (st_buildSlice (vs := [.int .i64 y8.Left, .int .i64 y8.Bottom, .int .i64 y8.Right, .int .i64 y8.Top]) ([y8.Left, y8.Bottom, y8.Right, y8.Top] : List Int) Tryd.underlying45 ti_2 zi_2 rfl rfl rfl (fun w hh => ⟨(Rd.mk_int _ _ _), (Rd.mk_int _ _ _), (Rd.mk_int _ _ _), (Rd.mk_int _ _ _), trivial⟩)) (fun b13 => ?_)
        refine JL_bnd fun r14 hr15 => ?_
        refine JL_call (wants_none rfl) rfl Tryd.call24 rfl (Ca_of0 fun w hh => c_impl_decimals _ w (fun _ hk => hk.elim) (Tab.of hT_ hh) _ _ (hh.ow0 0 rfl) _ _ hr15) (fun _ => ?_)
        refine JL_st (wants_none rfl) rfl (st_buildSlice (vs := [.string r14]) ([r14] : List ByteArray) Tryd.underlying43 ti_9 zi_9 rfl rfl rfl (fun w hh => ⟨(Rd.mk_str _ _ _), trivial⟩)) (fun b16 => ?_)
        refine JL_bnd fun z17 hz18 => ?_
        refine JL_st (wants_none rfl) rfl (st_append 4 Tryd.underlying43 ti_9 zi_9 rfl bi_9 rfl rfl rfl rfl (fun w hh => hh.src_ow 0 rfl) hz18) (fun v19 => ?_)
        refine JL_q (wants_none rfl) rfl (ex_assign rfl) ?_
        refine JL_nil ?_
        refine N_block ?_
        refine N_then ?_
        refine J_region ?_
        refine JL_q (wants_none rfl) rfl (ex_add rfl rfl) ?_
        refine JL_q (wants_none rfl) rfl (ex_move rfl) ?_
        refine JL_nil ?_
        exact N_next' v19 ⟨rfl, rfl, rfl, rfl, trivial⟩ [4, 5] rfl rfl
      · refine J_exit ?_
        refine N_then_exit ?_
        exact N_break' g6 ⟨rfl, rfl, rfl, rfl, trivial⟩ [0, 1] rfl rfl
    · refine N_then ?_
      refine J_seq ?_
      refine J_region ?_
      refine JL_q (wants_none rfl) rfl (ex_move rfl) ?_
      refine JL_bnd fun r20 hr21 => ?_
      refine JL_call (wants_none rfl) rfl Tryd.call25 rfl (Ca_of0 fun w hh => c_strings_Join _ w (fun _ hk => hk.elim) _ _ (hh.ow0 0 rfl) _ _ hr21) (fun _ => ?_)
      refine JL_q (wants_none rfl) rfl (ex_assign rfl) ?_
      refine JL_nil ?_
      refine N_then ?_
      refine J_ret ?_
      exact N_ret1 rfl (rv_tmp rfl) (fun w hh => ⟨(), rfl, hh.sel [] rfl⟩)

end Go.Proofs.YtnpkepfmicgelaaDoor
