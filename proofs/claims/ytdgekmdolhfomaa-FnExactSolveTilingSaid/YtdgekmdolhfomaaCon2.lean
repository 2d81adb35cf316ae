/-
  Each function of the program computes what its plain function says: printed by program. No condition.
-/
import Derived.Test.YtdgekmdolhfomaaFn
import Derived.Test.YtdgekmdolhfomaaInf
import Derived.Test.YtdgekmdolhfomaaCon1
namespace Go.Proofs.Ytdgekmdolhfomaa
open Go Go.Tc Go.Fn
set_option linter.unusedVariables false

set_option maxHeartbeats 40000000 in
theorem c_laws_szTileS (A : Nat → Prop) (w : World) (hA : ∀ k, A k → k < w.heap.size) (v0_ : Value) (p0 : (List GTile)) (hp0 : Rd A w v0_ p0) (p1 : Int) (r : Int) (hr : F_laws_szTileS p0 p1 = some r) :
    Con Try.prog 7 [v0_, .int .i64 p1] A w (fun x_ : Unit => .int .i64 r) (fun x_ => []) := by
  refine Con_of (v := fun (r : Int) (x_ : Unit) => .int .i64 r) (fs := fun r x_ => []) Try.func7 rfl Try.ntmps7 rfl ((SH.start hA).start_rd rfl hp0) rfl ?_ hr
  unfold F_laws_szTileS
  refine J_seq ?_
  refine J_region ?_
  refine JL_q (wants_none rfl) rfl (ex_assign rfl) ?_
  refine JL_nil ?_
  refine N_then ?_
  refine J_seq ?_
  refine J_region ?_
  refine JL_q (wants_none rfl) rfl (ex_move rfl) ?_
  refine JL_q (wants_none rfl) rfl (ex_move rfl) ?_
  refine JL_q (wants_none rfl) rfl (ex_len_rd 0 Try.underlying22 rfl rfl) ?_
  refine JL_q (wants_none rfl) rfl (ex_sub rfl rfl) ?_
  refine JL_q (wants_none rfl) rfl (ex_assign rfl) ?_
  refine JL_nil ?_
  refine N_then ?_
  refine J_seq ?_
  refine J_seq ?_
  refine J_region ?_
  refine JL_q (wants_none rfl) rfl (ex_move rfl) ?_
  refine JL_q (wants_none rfl) rfl (ex_lss rfl rfl) ?_
  refine JL_nil ?_
  refine N_then ?_
  refine J_if rfl (fun h1 => ?_) (fun h1 => ?_)
  · refine J_seq ?_
    refine J_region ?_
    refine JL_q (wants_none rfl) rfl (ex_assign rfl) ?_
    refine JL_nil ?_
    refine N_then ?_
    refine J_ret ?_
    refine N_then_ret ?_
    exact N_ret1 rfl (rv_tmp rfl) (fun w hh => ⟨(), rfl, hh.sel [] rfl⟩)
  · refine J_skip ?_
    refine N_then ?_
    refine J_seq ?_
    refine J_region ?_
    refine JL_q (wants_none rfl) rfl (ex_move rfl) ?_
    refine JL_q (wants_none rfl) rfl (ex_assign rfl) ?_
    refine JL_nil ?_
    refine N_then ?_
    refine J_ret ?_
    exact N_ret1 rfl (rv_tmp rfl) (fun w hh => ⟨(), rfl, hh.sel [] rfl⟩)

set_option maxHeartbeats 40000000 in
theorem c_laws_toTile (A : Nat → Prop) (w : World) (hA : ∀ k, A k → k < w.heap.size) (v0_ : Value) (p0 : GTile) (hp0 : Rd A w v0_ p0) (r : GTile) (hr : F_laws_toTile p0 = some r) :
    Con Try.prog 40 [v0_] A w (fun x_ : Unit => .agg #[.int .i64 r.Left, .int .i64 r.Bottom, .int .i64 r.Right, .int .i64 r.Top]) (fun x_ => []) := by
  obtain rfl := GTile.open hp0
  refine Con_of (v := fun (r : GTile) (x_ : Unit) => .agg #[.int .i64 r.Left, .int .i64 r.Bottom, .int .i64 r.Right, .int .i64 r.Top]) (fs := fun r x_ => []) Try.func40 rfl Try.ntmps40 rfl (SH.start hA) rfl ?_ hr
  unfold F_laws_toTile
  refine J_seq ?_
  refine J_region ?_
  refine JL_st (wants_none rfl) rfl (st_box' rfl (fun w hh => (cv_aggs ⟨cv_int, cv_int, cv_int, cv_int, trivial⟩))) (fun b1 => ?_)
  refine JL_st (wants_none rfl) rfl (st_alloc zi_79 rfl) (fun b2 => ?_)
  refine JL_nil ?_
  refine N_then ?_
  refine J_seq ?_
  refine J_region ?_
  refine JL_st (wants_none rfl) rfl (st_alloc zi_79 rfl) (fun b3 => ?_)
  refine JL_nil ?_
  refine N_then ?_
  refine J_seq ?_
  refine J_region ?_
  refine JL_q (wants_none rfl) rfl (ex_fieldAddr fi_81_0 rfl rfl) ?_
  refine JL_q (wants_none rfl) rfl (ex_load_bx 2 ti_2 rfl rfl rfl) ?_
  refine JL_q (wants_none rfl) rfl (ex_fieldAddr fi_79_0 rfl rfl) ?_
  refine JL_sk (wants_none rfl) (sk_store_bx' 0 ti_2 rfl rfl (fun w hh => cv_int) rfl rfl rfl rfl) ?_
  refine JL_nil ?_
  refine N_then ?_
  refine J_seq ?_
  refine J_region ?_
  refine JL_q (wants_none rfl) rfl (ex_fieldAddr fi_81_1 rfl rfl) ?_
  refine JL_q (wants_none rfl) rfl (ex_load_bx 2 ti_2 rfl rfl rfl) ?_
  refine JL_q (wants_none rfl) rfl (ex_fieldAddr fi_79_1 rfl rfl) ?_
  refine JL_sk (wants_none rfl) (sk_store_bx' 0 ti_2 rfl rfl (fun w hh => cv_int) rfl rfl rfl rfl) ?_
  refine JL_nil ?_
  refine N_then ?_
  refine J_seq ?_
  refine J_region ?_
  refine JL_q (wants_none rfl) rfl (ex_fieldAddr fi_81_2 rfl rfl) ?_
  refine JL_q (wants_none rfl) rfl (ex_load_bx 2 ti_2 rfl rfl rfl) ?_
  refine JL_q (wants_none rfl) rfl (ex_fieldAddr fi_79_2 rfl rfl) ?_
  refine JL_sk (wants_none rfl) (sk_store_bx' 0 ti_2 rfl rfl (fun w hh => cv_int) rfl rfl rfl rfl) ?_
  refine JL_nil ?_
  refine N_then ?_
  refine J_seq ?_
  refine J_region ?_
  refine JL_q (wants_none rfl) rfl (ex_fieldAddr fi_81_3 rfl rfl) ?_
  refine JL_q (wants_none rfl) rfl (ex_load_bx 2 ti_2 rfl rfl rfl) ?_
  refine JL_q (wants_none rfl) rfl (ex_fieldAddr fi_79_3 rfl rfl) ?_
  refine JL_sk (wants_none rfl) (sk_store_bx' 0 ti_2 rfl rfl (fun w hh => cv_int) rfl rfl rfl rfl) ?_
  refine JL_nil ?_
  refine N_then ?_
  refine J_seq ?_
  refine J_region ?_
  refine JL_q (wants_none rfl) rfl (ex_load_bx_agg 0 ti_79 rfl rfl rfl rfl) ?_
  refine JL_sk (wants_none rfl) (sk_store_bx' 1 ti_79 rfl rfl (fun w hh => (cv_aggs ⟨cv_int, cv_int, cv_int, cv_int, trivial⟩)) rfl rfl rfl rfl) ?_
  refine JL_nil ?_
  refine N_then ?_
  refine J_ret ?_
  exact N_ret1 rfl (rv_cell 1 rfl rfl ti_79 rfl) (fun w hh => ⟨(), rfl, hh.sel [] rfl⟩)

set_option maxHeartbeats 40000000 in
theorem c_laws_toTileS (A : Nat → Prop) (w : World) (hA : ∀ k, A k → k < w.heap.size) (v0_ : Value) (p0 : (List GTile)) (hp0 : Rd A w v0_ p0) (r : (List GTile)) (hr : F_laws_toTileS p0 = some r) :
    Con Try.prog 9 [v0_] A w (fun x_ : Value => x_) (fun x_ => [.ow 79 x_ r]) := by
  refine Con_of (v := fun (r : (List GTile)) (x_ : Value) => x_) (fs := fun r x_ => [.ow 79 x_ r]) Try.func9 rfl Try.ntmps9 rfl ((SH.start hA).start_rd rfl hp0) rfl ?_ hr
  unfold F_laws_toTileS
  refine J_seq ?_
  refine J_region ?_
  refine JL_q (wants_none rfl) rfl (ex_assign rfl) ?_
  refine JL_nil ?_
  refine N_then ?_
  refine J_seq ?_
  refine J_region ?_
  refine JL_q (wants_none rfl) rfl (ex_move rfl) ?_
  refine JL_q (wants_none rfl) rfl (ex_len_rd 0 Try.underlying22 rfl rfl) ?_
  refine JL_bnd fun z1 hz2 => ?_
  refine JL_st (wants_none rfl) rfl (st_make (α := GTile) Try.underlying28 ti_79 zi_79 bi_79 rfl (fun _ _ => GTile.zero) rfl hz2) (fun b3 => ?_)
  refine JL_q (wants_none rfl) rfl (ex_assign rfl) ?_
  refine JL_nil ?_
  refine N_then ?_
  refine J_seq ?_
  refine J_seq ?_
  refine J_region ?_
  refine JL_q (wants_none rfl) rfl (ex_assign rfl) ?_
  refine JL_nil ?_
  refine N_then ?_
  refine J_loop' (S := (List GTile) × Int) (G := Unit) (F_laws_toTileS_L1 p0) (fun s4 _ => [(0, v0_), (3, (.slice (some ⟨b3, 0, none⟩) z1.length z1.length)), (4, .int .i64 s4.2)]) (fun s4 _ => [.rd v0_ p0, .ow 79 (.slice (some ⟨b3, 0, none⟩) z1.length z1.length) s4.1]) (z1, 0) () ⟨rfl, rfl, rfl, trivial⟩ [1, 0] rfl rfl (fun s4 g5 => ?_) (fun s4 g5 => ?_)
  · unfold F_laws_toTileS_L1
    refine J_seq ?_
    refine J_seq ?_
    refine J_region ?_
    refine JL_q (wants_none rfl) rfl (ex_move rfl) ?_
    refine JL_q (wants_none rfl) rfl (ex_move rfl) ?_
    refine JL_q (wants_none rfl) rfl (ex_len_rd 0 Try.underlying22 rfl rfl) ?_
    refine JL_q (wants_none rfl) rfl (ex_lss rfl rfl) ?_
    refine JL_nil ?_
    refine N_then ?_
    refine J_if rfl (fun h6 => ?_) (fun h6 => ?_)
    · refine J_skip ?_
      refine N_then ?_
      refine J_seq ?_
      refine J_block ?_
      refine J_region ?_
      refine JL_q (wants_none rfl) rfl (ex_move rfl) ?_
      refine JL_q (wants_none rfl) rfl (ex_move rfl) ?_
      refine JL_q (wants_none rfl) rfl (ex_move rfl) ?_
      refine JL_q (wants_none rfl) rfl (ex_move rfl) ?_
      refine JL_bnd fun y7 hy8 => ?_
      refine JL_st (wants_none rfl) rfl (st_index 0 Try.underlying22 ti_81 rfl rfl rfl hy8) (fun q9 => ?_)
      refine JL_st (wants_none rfl) rfl (st_load_pt_o 0 (GTile.opens _) ti_81 rfl rfl) (fun _ => ?_)
      refine JL_bnd fun r11 hr12 => ?_
      refine JL_call (wants_none rfl) rfl Try.call40 rfl (Ca_of0 fun w hh => c_laws_toTile _ w (fun _ hk => hk.elim) _ _ (GTile.rdmk (Rd.mk_int _ _ _) (Rd.mk_int _ _ _) (Rd.mk_int _ _ _) (Rd.mk_int _ _ _)) _ hr12) (fun _ => ?_)
      refine JL_bnd fun y13 hy14 => ?_
      refine JL_q (wants_none rfl) rfl (ex_index_ow 2 Try.underlying28 ti_79 rfl rfl rfl hy14) ?_
      refine JL_sk (wants_none rfl) (sk_store_ow 2 ti_79 rfl rfl rfl hy14 (fun w hh => (GTile.rdmk (Rd.mk_int _ _ _) (Rd.mk_int _ _ _) (Rd.mk_int _ _ _) (Rd.mk_int _ _ _)))) ?_
      refine JL_nil ?_
      refine N_block ?_
      refine N_then ?_
      refine J_region ?_
      refine JL_q (wants_none rfl) rfl (ex_move rfl) ?_
      refine JL_q (wants_none rfl) rfl (ex_add rfl rfl) ?_
      refine JL_q (wants_none rfl) rfl (ex_assign rfl) ?_
      refine JL_nil ?_
      exact N_next' () ⟨rfl, rfl, rfl, trivial⟩ [1, 2] rfl rfl
    · refine J_exit ?_
      refine N_then_exit ?_
      exact N_break' () ⟨rfl, rfl, rfl, trivial⟩ [0, 1] rfl rfl
  · refine N_then ?_
    refine J_seq ?_
    refine J_region ?_
    refine JL_q (wants_none rfl) rfl (ex_move rfl) ?_
    refine JL_q (wants_none rfl) rfl (ex_assign rfl) ?_
    refine JL_nil ?_
    refine N_then ?_
    refine J_ret ?_
    exact N_ret1 rfl (rv_tmp rfl) (fun w hh => ⟨(.slice (some ⟨b3, 0, none⟩) z1.length z1.length), rfl, hh.sel [1] rfl⟩)

set_option maxHeartbeats 40000000 in
theorem c_laws_toInt64S (A : Nat → Prop) (w : World) (hA : ∀ k, A k → k < w.heap.size) (v0_ : Value) (p0 : (List Int)) (hp0 : Rd A w v0_ p0) (r : (List Int)) (hr : F_laws_toInt64S p0 = some r) :
    Con Try.prog 10 [v0_] A w (fun x_ : Value => x_) (fun x_ => [.ow 2 x_ r]) := by
  refine Con_of (v := fun (r : (List Int)) (x_ : Value) => x_) (fs := fun r x_ => [.ow 2 x_ r]) Try.func10 rfl Try.ntmps10 rfl ((SH.start hA).start_rd rfl hp0) rfl ?_ hr
  unfold F_laws_toInt64S
  refine J_seq ?_
  refine J_region ?_
  refine JL_q (wants_none rfl) rfl (ex_assign rfl) ?_
  refine JL_nil ?_
  refine N_then ?_
  refine J_seq ?_
  refine J_region ?_
  refine JL_q (wants_none rfl) rfl (ex_move rfl) ?_
  refine JL_q (wants_none rfl) rfl (ex_len_rd 0 Try.underlying23 rfl rfl) ?_
  refine JL_bnd fun z1 hz2 => ?_
  refine JL_st (wants_none rfl) rfl (st_make (α := Int) Try.underlying23 ti_2 zi_2 bi_2 rfl (fun _ _ => zero_int) rfl hz2) (fun b3 => ?_)
  refine JL_q (wants_none rfl) rfl (ex_assign rfl) ?_
  refine JL_nil ?_
  refine N_then ?_
  refine J_seq ?_
  refine J_seq ?_
  refine J_region ?_
  refine JL_q (wants_none rfl) rfl (ex_assign rfl) ?_
  refine JL_nil ?_
  refine N_then ?_
  refine J_loop' (S := (List Int) × Int) (G := Unit) (F_laws_toInt64S_L1 p0) (fun s4 _ => [(0, v0_), (3, (.slice (some ⟨b3, 0, none⟩) z1.length z1.length)), (4, .int .i64 s4.2)]) (fun s4 _ => [.rd v0_ p0, .ow 2 (.slice (some ⟨b3, 0, none⟩) z1.length z1.length) s4.1]) (z1, 0) () ⟨rfl, rfl, rfl, trivial⟩ [1, 0] rfl rfl (fun s4 g5 => ?_) (fun s4 g5 => ?_)
  · unfold F_laws_toInt64S_L1
    refine J_seq ?_
    refine J_seq ?_
    refine J_region ?_
    refine JL_q (wants_none rfl) rfl (ex_move rfl) ?_
    refine JL_q (wants_none rfl) rfl (ex_move rfl) ?_
    refine JL_q (wants_none rfl) rfl (ex_len_rd 0 Try.underlying23 rfl rfl) ?_
    refine JL_q (wants_none rfl) rfl (ex_lss rfl rfl) ?_
    refine JL_nil ?_
    refine N_then ?_
    refine J_if rfl (fun h6 => ?_) (fun h6 => ?_)
    · refine J_skip ?_
      refine N_then ?_
      refine J_seq ?_
      refine J_block ?_
      refine J_region ?_
      refine JL_q (wants_none rfl) rfl (ex_move rfl) ?_
      refine JL_q (wants_none rfl) rfl (ex_move rfl) ?_
      refine JL_q (wants_none rfl) rfl (ex_move rfl) ?_
      refine JL_q (wants_none rfl) rfl (ex_move rfl) ?_
      refine JL_bnd fun y7 hy8 => ?_
      refine JL_st (wants_none rfl) rfl (st_index 0 Try.underlying23 ti_2 rfl rfl rfl hy8) (fun q9 => ?_)
      refine JL_st (wants_none rfl) rfl (st_load_pt_o 0 (opens_int _) ti_2 rfl rfl) (fun _ => ?_)
      refine JL_bnd fun y11 hy12 => ?_
      refine JL_q (wants_none rfl) rfl (ex_index_ow 2 Try.underlying23 ti_2 rfl rfl rfl hy12) ?_
      refine JL_sk (wants_none rfl) (sk_store_ow 2 ti_2 rfl rfl rfl hy12 (fun w hh => (Rd.mk_int _ _ _))) ?_
      refine JL_nil ?_
      refine N_block ?_
      refine N_then ?_
      refine J_region ?_
      refine JL_q (wants_none rfl) rfl (ex_move rfl) ?_
      refine JL_q (wants_none rfl) rfl (ex_add rfl rfl) ?_
      refine JL_q (wants_none rfl) rfl (ex_assign rfl) ?_
      refine JL_nil ?_
      exact N_next' () ⟨rfl, rfl, rfl, trivial⟩ [1, 2] rfl rfl
    · refine J_exit ?_
      refine N_then_exit ?_
      exact N_break' () ⟨rfl, rfl, rfl, trivial⟩ [0, 1] rfl rfl
  · refine N_then ?_
    refine J_seq ?_
    refine J_region ?_
    refine JL_q (wants_none rfl) rfl (ex_move rfl) ?_
    refine JL_q (wants_none rfl) rfl (ex_assign rfl) ?_
    refine JL_nil ?_
    refine N_then ?_
    refine J_ret ?_
    exact N_ret1 rfl (rv_tmp rfl) (fun w hh => ⟨(.slice (some ⟨b3, 0, none⟩) z1.length z1.length), rfl, hh.sel [1] rfl⟩)

set_option maxHeartbeats 40000000 in
theorem c_spec_l33Color (A : Nat → Prop) (w : World) (hA : ∀ k, A k → k < w.heap.size) (p0 : Int) (r : Bool) (hr : F_spec_l33Color p0 = some r) :
    Con Try.prog 120 [.int .i64 p0] A w (fun x_ : Unit => .bool r) (fun x_ => []) := by
  refine Con_of (v := fun (r : Bool) (x_ : Unit) => .bool r) (fs := fun r x_ => []) Try.func120 rfl Try.ntmps120 rfl (SH.start hA) rfl ?_ hr
  unfold F_spec_l33Color
  refine J_seq ?_
  refine J_region ?_
  refine JL_q (wants_none rfl) rfl (ex_assign rfl) ?_
  refine JL_nil ?_
  refine N_then ?_
  refine J_seq ?_
  refine J_region ?_
  refine JL_q (wants_none rfl) rfl (ex_move rfl) ?_
  refine JL_bnd fun r1 hr2 => ?_
  refine JL_call (wants_none rfl) rfl Try.call86 rfl (Ca_of0 fun w hh => c_spec_l00In _ w (fun _ hk => hk.elim) _ _ _ _ hr2) (fun _ => ?_)
  refine JL_q (wants_none rfl) rfl (ex_assign rfl) ?_
  refine JL_nil ?_
  refine N_then ?_
  refine J_ret ?_
  exact N_ret1 rfl (rv_tmp rfl) (fun w hh => ⟨(), rfl, hh.sel [] rfl⟩)

set_option maxHeartbeats 40000000 in
theorem c_spec_l33Is (A : Nat → Prop) (w : World) (hA : ∀ k, A k → k < w.heap.size) (v0_ : Value) (p0 : (List GTile)) (hp0 : Rd A w v0_ p0) (r : Bool) (hr : F_spec_l33Is p0 = some r) :
    Con Try.prog 84 [v0_] A w (fun x_ : Unit => .bool r) (fun x_ => []) := by
  refine Con_of (v := fun (r : Bool) (x_ : Unit) => .bool r) (fs := fun r x_ => []) Try.func84 rfl Try.ntmps84 rfl ((SH.start hA).start_rd rfl hp0) rfl ?_ hr
  unfold F_spec_l33Is
  refine J_seq ?_
  refine J_region ?_
  refine JL_q (wants_none rfl) rfl (ex_assign rfl) ?_
  refine JL_nil ?_
  refine N_then ?_
  refine J_seq ?_
  refine J_seq ?_
  refine J_region ?_
  refine JL_q (wants_none rfl) rfl (ex_assign rfl) ?_
  refine JL_nil ?_
  refine N_then ?_
  refine J_loop' (S := Int) (G := Unit) (F_spec_l33Is_L1 p0) (fun s1 _ => [(0, v0_), (3, .int .i64 s1)]) (fun s1 _ => [.rd v0_ p0]) 0 () ⟨rfl, rfl, trivial⟩ [0] rfl rfl (fun s1 g2 => ?_) (fun s1 g2 => ?_)
  · unfold F_spec_l33Is_L1
    refine J_seq ?_
    refine J_seq ?_
    refine J_region ?_
    refine JL_q (wants_none rfl) rfl (ex_move rfl) ?_
    refine JL_q (wants_none rfl) rfl (ex_move rfl) ?_
    refine JL_q (wants_none rfl) rfl (ex_len_rd 0 Try.underlying28 rfl rfl) ?_
    refine JL_q (wants_none rfl) rfl (ex_lss rfl rfl) ?_
    refine JL_nil ?_
    refine N_then ?_
    refine J_if rfl (fun h3 => ?_) (fun h3 => ?_)
    · refine J_skip ?_
      refine N_then ?_
      refine J_seq ?_
      refine J_block ?_
      refine J_seq ?_
      refine J_region ?_
      refine JL_q (wants_none rfl) rfl (ex_move rfl) ?_
      refine JL_q (wants_none rfl) rfl (ex_move rfl) ?_
      refine JL_bnd fun y4 hy5 => ?_
      refine JL_st (wants_none rfl) rfl (st_index 0 Try.underlying28 ti_79 rfl rfl rfl hy5) (fun q6 => ?_)
      refine JL_st (wants_none rfl) rfl (st_load_pt_o 0 (GTile.opens _) ti_79 rfl rfl) (fun _ => ?_)
      refine JL_st (wants_none rfl) rfl (st_alloc zi_79 rfl) (fun b8 => ?_)
      refine JL_sk (wants_none rfl) (sk_store_bx' 0 ti_79 rfl rfl (fun w hh => (cv_aggs ⟨cv_int, cv_int, cv_int, cv_int, trivial⟩)) rfl rfl rfl rfl) ?_
      refine JL_nil ?_
      refine N_then ?_
      refine J_seq ?_
      refine J_cut' (S' := Unit) (G' := Unit) (fun _ _ => [(0, v0_), (3, .int .i64 s1), (4, .pointer (some ⟨b8, 0, none⟩))]) (fun _ _ => [.rd v0_ p0, .bx b8 79 [.int .i64 y4.Left, .int .i64 y4.Bottom, .int .i64 y4.Right, .int .i64 y4.Top]]) ?_ (fun s9 g10 => ?_)
      · refine J_seq ?_
        refine J_region ?_
        refine JL_q (wants_none rfl) rfl (ex_fieldAddr fi_79_0 rfl rfl) ?_
        refine JL_q (wants_none rfl) rfl (ex_load_bx 0 ti_2 rfl rfl rfl) ?_
        refine JL_bnd fun r11 hr12 => ?_
        refine JL_call (wants_none rfl) rfl Try.call120 rfl (Ca_of0 fun w hh => c_spec_l33Color _ w (fun _ hk => hk.elim) _ _ hr12) (fun _ => ?_)
        refine JL_q (wants_none rfl) rfl (ex_not rfl) ?_
        refine JL_q (wants_none rfl) rfl (ex_move rfl) ?_
        refine JL_cond (fun h13 => ?_) (fun h13 => ?_)
        · refine JL_passed rfl rfl rfl h13 ?_
          refine JL_passed rfl rfl rfl h13 ?_
          refine JL_passed rfl rfl rfl h13 ?_
          refine JL_passed rfl rfl rfl h13 ?_
          refine JL_q (wants_none rfl) rfl (ex_pick_true rfl h13 rfl) ?_
          refine JL_q (wants_none rfl) rfl (ex_move rfl) ?_
          refine JL_passed rfl rfl rfl rfl ?_
          refine JL_passed rfl rfl rfl rfl ?_
          refine JL_passed rfl rfl rfl rfl ?_
          refine JL_passed rfl rfl rfl rfl ?_
          refine JL_q (wants_none rfl) rfl (ex_pick_true rfl rfl rfl) ?_
          refine JL_q (wants_none rfl) rfl (ex_move rfl) ?_
          refine JL_passed rfl rfl rfl rfl ?_
          refine JL_passed rfl rfl rfl rfl ?_
          refine JL_passed rfl rfl rfl rfl ?_
          refine JL_passed rfl rfl rfl rfl ?_
          refine JL_q (wants_none rfl) rfl (ex_pick_true rfl rfl rfl) ?_
          refine JL_nil ?_
          refine N_then ?_
          refine J_if_true rfl rfl ?_
          refine J_seq ?_
          refine J_region ?_
          refine JL_q (wants_none rfl) rfl (ex_assign rfl) ?_
          refine JL_nil ?_
          refine N_then ?_
          refine J_ret ?_
          refine N_mid_ret ?_
          refine N_then_ret ?_
          refine N_block_ret ?_
          refine N_then_ret ?_
          refine N_round_ret ?_
          refine N_then_ret ?_
          exact N_ret1 rfl (rv_tmp rfl) (fun w hh => ⟨(), rfl, hh.sel [] rfl⟩)
        · refine JL_q (wants_some rfl rfl rfl h13) rfl (ex_fieldAddr fi_79_1 rfl rfl) ?_
          refine JL_q (wants_some rfl rfl rfl h13) rfl (ex_load_bx 0 ti_2 rfl rfl rfl) ?_
          refine JL_bnd fun r14 hr15 => ?_
          refine JL_call (wants_some rfl rfl rfl h13) rfl Try.call120 rfl (Ca_of0 fun w hh => c_spec_l33Color _ w (fun _ hk => hk.elim) _ _ hr15) (fun _ => ?_)
          refine JL_q (wants_some rfl rfl rfl h13) rfl (ex_not rfl) ?_
          refine JL_q (wants_none rfl) rfl (ex_pick_false rfl h13 rfl) ?_
          refine JL_q (wants_none rfl) rfl (ex_move rfl) ?_
          refine JL_cond (fun h16 => ?_) (fun h16 => ?_)
          · refine JL_passed rfl rfl rfl h16 ?_
            refine JL_passed rfl rfl rfl h16 ?_
            refine JL_passed rfl rfl rfl h16 ?_
            refine JL_passed rfl rfl rfl h16 ?_
            refine JL_q (wants_none rfl) rfl (ex_pick_true rfl h16 rfl) ?_
            refine JL_q (wants_none rfl) rfl (ex_move rfl) ?_
            refine JL_passed rfl rfl rfl rfl ?_
            refine JL_passed rfl rfl rfl rfl ?_
            refine JL_passed rfl rfl rfl rfl ?_
            refine JL_passed rfl rfl rfl rfl ?_
            refine JL_q (wants_none rfl) rfl (ex_pick_true rfl rfl rfl) ?_
            refine JL_nil ?_
            refine N_then ?_
            refine J_if_true rfl rfl ?_
            refine J_seq ?_
            refine J_region ?_
            refine JL_q (wants_none rfl) rfl (ex_assign rfl) ?_
            refine JL_nil ?_
            refine N_then ?_
            refine J_ret ?_
            refine N_mid_ret ?_
            refine N_then_ret ?_
            refine N_block_ret ?_
            refine N_then_ret ?_
            refine N_round_ret ?_
            refine N_then_ret ?_
            exact N_ret1 rfl (rv_tmp rfl) (fun w hh => ⟨(), rfl, hh.sel [] rfl⟩)
          · refine JL_q (wants_some rfl rfl rfl h16) rfl (ex_fieldAddr fi_79_2 rfl rfl) ?_
            refine JL_q (wants_some rfl rfl rfl h16) rfl (ex_load_bx 0 ti_2 rfl rfl rfl) ?_
            refine JL_bnd fun r17 hr18 => ?_
            refine JL_call (wants_some rfl rfl rfl h16) rfl Try.call120 rfl (Ca_of0 fun w hh => c_spec_l33Color _ w (fun _ hk => hk.elim) _ _ hr18) (fun _ => ?_)
            refine JL_q (wants_some rfl rfl rfl h16) rfl (ex_not rfl) ?_
            refine JL_q (wants_none rfl) rfl (ex_pick_false rfl h16 rfl) ?_
            refine JL_q (wants_none rfl) rfl (ex_move rfl) ?_
            refine JL_cond (fun h19 => ?_) (fun h19 => ?_)
            · refine JL_passed rfl rfl rfl h19 ?_
              refine JL_passed rfl rfl rfl h19 ?_
              refine JL_passed rfl rfl rfl h19 ?_
              refine JL_passed rfl rfl rfl h19 ?_
              refine JL_q (wants_none rfl) rfl (ex_pick_true rfl h19 rfl) ?_
              refine JL_nil ?_
              refine N_then ?_
              refine J_if_true rfl rfl ?_
              refine J_seq ?_
              refine J_region ?_
              refine JL_q (wants_none rfl) rfl (ex_assign rfl) ?_
              refine JL_nil ?_
              refine N_then ?_
              refine J_ret ?_
              refine N_mid_ret ?_
              refine N_then_ret ?_
              refine N_block_ret ?_
              refine N_then_ret ?_
              refine N_round_ret ?_
              refine N_then_ret ?_
              exact N_ret1 rfl (rv_tmp rfl) (fun w hh => ⟨(), rfl, hh.sel [] rfl⟩)
            · refine JL_q (wants_some rfl rfl rfl h19) rfl (ex_fieldAddr fi_79_3 rfl rfl) ?_
              refine JL_q (wants_some rfl rfl rfl h19) rfl (ex_load_bx 0 ti_2 rfl rfl rfl) ?_
              refine JL_bnd fun r20 hr21 => ?_
              refine JL_call (wants_some rfl rfl rfl h19) rfl Try.call120 rfl (Ca_of0 fun w hh => c_spec_l33Color _ w (fun _ hk => hk.elim) _ _ hr21) (fun _ => ?_)
              refine JL_q (wants_some rfl rfl rfl h19) rfl (ex_not rfl) ?_
              refine JL_q (wants_none rfl) rfl (ex_pick_false rfl h19 rfl) ?_
              refine JL_nil ?_
              refine N_then ?_
              refine J_if rfl (fun h22 => ?_) (fun h22 => ?_)
              · refine J_seq ?_
                refine J_region ?_
                refine JL_q (wants_none rfl) rfl (ex_assign rfl) ?_
                refine JL_nil ?_
                refine N_then ?_
                refine J_ret ?_
                refine N_mid_ret ?_
                refine N_then_ret ?_
                refine N_block_ret ?_
                refine N_then_ret ?_
                refine N_round_ret ?_
                refine N_then_ret ?_
                exact N_ret1 rfl (rv_tmp rfl) (fun w hh => ⟨(), rfl, hh.sel [] rfl⟩)
              · refine J_skip ?_
                exact N_meet' () ⟨rfl, rfl, rfl, trivial⟩ [2, 0] rfl rfl
      · refine N_then ?_
        refine J_seq ?_
        refine J_region ?_
        refine JL_q (wants_none rfl) rfl (ex_assign rfl) ?_
        refine JL_nil ?_
        refine N_then ?_
        refine J_loop' (S := Int) (G := Unit) (F_spec_l33Is_L2 p0 s1 y4) (fun s23 _ => [(0, v0_), (3, .int .i64 s1), (4, .pointer (some ⟨b8, 0, none⟩)), (5, .int .i64 s23)]) (fun s23 _ => [.rd v0_ p0, .bx b8 79 [.int .i64 y4.Left, .int .i64 y4.Bottom, .int .i64 y4.Right, .int .i64 y4.Top]]) 0 () ⟨rfl, rfl, rfl, rfl, trivial⟩ [0, 1] rfl rfl (fun s23 g24 => ?_) (fun s23 g24 => ?_)
        · unfold F_spec_l33Is_L2
          refine J_seq ?_
          refine J_seq ?_
          refine J_region ?_
          refine JL_q (wants_none rfl) rfl (ex_move rfl) ?_
          refine JL_q (wants_none rfl) rfl (ex_move rfl) ?_
          refine JL_q (wants_none rfl) rfl (ex_lss rfl rfl) ?_
          refine JL_q (wants_none rfl) rfl (ex_move rfl) ?_
          refine JL_cond (fun h25 => ?_) (fun h25 => ?_)
          · refine JL_q (wants_some rfl rfl rfl h25) rfl (ex_move rfl) ?_
            refine JL_q (wants_some rfl rfl rfl h25) rfl (ex_lss rfl rfl) ?_
            refine JL_q (wants_none rfl) rfl (ex_pick_true rfl h25 rfl) ?_
            refine JL_nil ?_
            refine N_then ?_
            refine J_if rfl (fun h26 => ?_) (fun h26 => ?_)
            · refine J_skip ?_
              refine N_then ?_
              refine J_seq ?_
              refine J_block ?_
              refine J_seq ?_
              refine J_draw [] (by kernel_rfl) ?_
              refine JP_take (i := 0) [0, 1] [] rfl (by kernel_rfl) (by kernel_rfl) (by kernel_rfl) rfl rfl (wants_none rfl) rfl (ex_move rfl) ?_
              refine JP_take (i := 1) [0, 1] [] rfl (by kernel_rfl) (by kernel_rfl) (by kernel_rfl) rfl rfl (wants_none rfl) rfl (ex_move rfl) ?_
              refine JP_bnd fun y27 hy28 => ?_
              refine JP_sq (i := 2) [] rfl (by kernel_rfl) (by kernel_rfl) (by kernel_rfl) rfl (wants_none rfl) rfl (sq_index 0 Try.underlying28 ti_79 rfl rfl rfl hy28) (fun q29 => ?_)
              refine JP_sq (i := 3) [] rfl (by kernel_rfl) (by kernel_rfl) (by kernel_rfl) rfl (wants_none rfl) rfl (sq_load_pt_o 0 (GTile.opens _) ti_79 rfl rfl) (fun _ => ?_)
              refine JP_take (i := 4) [0, 1, 2] [] rfl (by kernel_rfl) (by kernel_rfl) (by kernel_rfl) rfl rfl (wants_none rfl) rfl (ex_load_bx_agg 2 ti_79 rfl rfl rfl rfl) ?_
              refine JP_take (i := 5) [0, 1, 2] [] rfl (by kernel_rfl) (by kernel_rfl) (by kernel_rfl) rfl rfl (wants_none rfl) rfl (ex_eql_seq_79 rfl rfl) ?_
              refine JP_go [] [] rfl rfl rfl (fun _ _ _ => ?_)
              refine JD_done (by kernel_rfl) ?_
              refine N_then ?_
              refine J_if rfl (fun h31 => ?_) (fun h31 => ?_)
              · refine J_seq ?_
                refine J_region ?_
                refine JL_q (wants_none rfl) rfl (ex_assign rfl) ?_
                refine JL_nil ?_
                refine N_then ?_
                refine J_ret ?_
                refine N_block_ret ?_
                refine N_then_ret ?_
                refine N_round_ret ?_
                refine N_block_ret ?_
                refine N_then_ret ?_
                refine N_round_ret ?_
                refine N_then_ret ?_
                exact N_ret1 rfl (rv_tmp rfl) (fun w hh => ⟨(), rfl, hh.sel [] rfl⟩)
              · refine J_skip ?_
                refine N_block ?_
                refine N_then ?_
                refine J_region ?_
                refine JL_q (wants_none rfl) rfl (ex_move rfl) ?_
                refine JL_q (wants_none rfl) rfl (ex_add rfl rfl) ?_
                refine JL_q (wants_none rfl) rfl (ex_assign rfl) ?_
                refine JL_nil ?_
                exact N_next' () ⟨rfl, rfl, rfl, rfl, trivial⟩ [1, 2] rfl rfl
            · refine J_exit ?_
              refine N_then_exit ?_
              exact N_break' () ⟨rfl, rfl, rfl, rfl, trivial⟩ [0, 1] rfl rfl
          · refine JL_passed rfl rfl rfl h25 ?_
            refine JL_passed rfl rfl rfl h25 ?_
            refine JL_q (wants_none rfl) rfl (ex_pick_false rfl h25 rfl) ?_
            refine JL_nil ?_
            refine N_then ?_
            refine J_if_false rfl rfl ?_
            refine J_exit ?_
            refine N_then_exit ?_
            exact N_break' () ⟨rfl, rfl, rfl, rfl, trivial⟩ [0, 1] rfl rfl
        · refine N_block ?_
          refine N_then ?_
          refine J_region ?_
          refine JL_q (wants_none rfl) rfl (ex_move rfl) ?_
          refine JL_q (wants_none rfl) rfl (ex_add rfl rfl) ?_
          refine JL_q (wants_none rfl) rfl (ex_assign rfl) ?_
          refine JL_nil ?_
          exact N_next' () ⟨rfl, rfl, trivial⟩ [0] rfl rfl
    · refine J_exit ?_
      refine N_then_exit ?_
      exact N_break' () ⟨rfl, rfl, trivial⟩ [0] rfl rfl
  · refine N_then ?_
    refine J_seq ?_
    refine J_region ?_
    refine JL_q (wants_none rfl) rfl (ex_move rfl) ?_
    refine JL_q (wants_none rfl) rfl (ex_len_rd 0 Try.underlying28 rfl rfl) ?_
    refine JL_q (wants_none rfl) rfl (ex_gtr rfl rfl) ?_
    refine JL_q (wants_none rfl) rfl (ex_move rfl) ?_
    refine JL_cond (fun h32 => ?_) (fun h32 => ?_)
    · refine JL_q (wants_some rfl rfl rfl h32) rfl (ex_move rfl) ?_
      refine JL_q (wants_some rfl rfl rfl h32) rfl (ex_len_rd 0 Try.underlying28 rfl rfl) ?_
      refine JL_q (wants_some rfl rfl rfl h32) rfl (ex_leq rfl rfl) ?_
      refine JL_q (wants_none rfl) rfl (ex_pick_true rfl h32 rfl) ?_
      refine JL_q (wants_none rfl) rfl (ex_assign rfl) ?_
      refine JL_nil ?_
      refine N_then ?_
      refine J_ret ?_
      exact N_ret1 rfl (rv_tmp rfl) (fun w hh => ⟨(), rfl, hh.sel [] rfl⟩)
    · refine JL_passed rfl rfl rfl h32 ?_
      refine JL_passed rfl rfl rfl h32 ?_
      refine JL_passed rfl rfl rfl h32 ?_
      refine JL_q (wants_none rfl) rfl (ex_pick_false rfl h32 rfl) ?_
      refine JL_q (wants_none rfl) rfl (ex_assign rfl) ?_
      refine JL_nil ?_
      refine N_then ?_
      refine J_ret ?_
      exact N_ret1 rfl (rv_tmp rfl) (fun w hh => ⟨(), rfl, hh.sel [] rfl⟩)

set_option maxHeartbeats 40000000 in
theorem c_spec_l33Frame (A : Nat → Prop) (w : World) (hA : ∀ k, A k → k < w.heap.size) (v0_ : Value) (p0 : (List Int)) (hp0 : Rd A w v0_ p0) (r : Bool) (hr : F_spec_l33Frame p0 = some r) :
    Con Try.prog 85 [v0_] A w (fun x_ : Unit => .bool r) (fun x_ => []) := by
  refine Con_of (v := fun (r : Bool) (x_ : Unit) => .bool r) (fs := fun r x_ => []) Try.func85 rfl Try.ntmps85 rfl ((SH.start hA).start_rd rfl hp0) rfl ?_ hr
  unfold F_spec_l33Frame
  refine J_seq ?_
  refine J_region ?_
  refine JL_q (wants_none rfl) rfl (ex_assign rfl) ?_
  refine JL_nil ?_
  refine N_then ?_
  refine J_seq ?_
  refine J_seq ?_
  refine J_region ?_
  refine JL_q (wants_none rfl) rfl (ex_assign rfl) ?_
  refine JL_nil ?_
  refine N_then ?_
  refine J_loop' (S := Int) (G := Unit) (F_spec_l33Frame_L1 p0) (fun s1 _ => [(0, v0_), (3, .int .i64 s1)]) (fun s1 _ => [.rd v0_ p0]) 0 () ⟨rfl, rfl, trivial⟩ [0] rfl rfl (fun s1 g2 => ?_) (fun s1 g2 => ?_)
  · unfold F_spec_l33Frame_L1
    refine J_seq ?_
    refine J_seq ?_
    refine J_region ?_
    refine JL_q (wants_none rfl) rfl (ex_move rfl) ?_
    refine JL_q (wants_none rfl) rfl (ex_move rfl) ?_
    refine JL_q (wants_none rfl) rfl (ex_len_rd 0 Try.underlying23 rfl rfl) ?_
    refine JL_q (wants_none rfl) rfl (ex_lss rfl rfl) ?_
    refine JL_nil ?_
    refine N_then ?_
    refine J_if rfl (fun h3 => ?_) (fun h3 => ?_)
    · refine J_skip ?_
      refine N_then ?_
      refine J_seq ?_
      refine J_block ?_
      refine J_seq ?_
      refine J_region ?_
      refine JL_q (wants_none rfl) rfl (ex_move rfl) ?_
      refine JL_q (wants_none rfl) rfl (ex_move rfl) ?_
      refine JL_bnd fun y4 hy5 => ?_
      refine JL_st (wants_none rfl) rfl (st_index 0 Try.underlying23 ti_2 rfl rfl rfl hy5) (fun q6 => ?_)
      refine JL_st (wants_none rfl) rfl (st_load_pt_o 0 (opens_int _) ti_2 rfl rfl) (fun _ => ?_)
      refine JL_bnd fun r8 hr9 => ?_
      refine JL_call (wants_none rfl) rfl Try.call120 rfl (Ca_of0 fun w hh => c_spec_l33Color _ w (fun _ hk => hk.elim) _ _ hr9) (fun _ => ?_)
      refine JL_q (wants_none rfl) rfl (ex_not rfl) ?_
      refine JL_nil ?_
      refine N_then ?_
      refine J_if rfl (fun h10 => ?_) (fun h10 => ?_)
      · refine J_seq ?_
        refine J_region ?_
        refine JL_q (wants_none rfl) rfl (ex_assign rfl) ?_
        refine JL_nil ?_
        refine N_then ?_
        refine J_ret ?_
        refine N_block_ret ?_
        refine N_then_ret ?_
        refine N_round_ret ?_
        refine N_then_ret ?_
        exact N_ret1 rfl (rv_tmp rfl) (fun w hh => ⟨(), rfl, hh.sel [] rfl⟩)
      · refine J_skip ?_
        refine N_block ?_
        refine N_then ?_
        refine J_region ?_
        refine JL_q (wants_none rfl) rfl (ex_move rfl) ?_
        refine JL_q (wants_none rfl) rfl (ex_add rfl rfl) ?_
        refine JL_q (wants_none rfl) rfl (ex_assign rfl) ?_
        refine JL_nil ?_
        exact N_next' () ⟨rfl, rfl, trivial⟩ [1] rfl rfl
    · refine J_exit ?_
      refine N_then_exit ?_
      exact N_break' () ⟨rfl, rfl, trivial⟩ [0] rfl rfl
  · refine N_then ?_
    refine J_seq ?_
    refine J_region ?_
    refine JL_q (wants_none rfl) rfl (ex_move rfl) ?_
    refine JL_q (wants_none rfl) rfl (ex_len_rd 0 Try.underlying23 rfl rfl) ?_
    refine JL_q (wants_none rfl) rfl (ex_gtr rfl rfl) ?_
    refine JL_q (wants_none rfl) rfl (ex_move rfl) ?_
    refine JL_cond (fun h11 => ?_) (fun h11 => ?_)
    · refine JL_q (wants_some rfl rfl rfl h11) rfl (ex_move rfl) ?_
      refine JL_q (wants_some rfl rfl rfl h11) rfl (ex_len_rd 0 Try.underlying23 rfl rfl) ?_
      refine JL_q (wants_some rfl rfl rfl h11) rfl (ex_leq rfl rfl) ?_
      refine JL_q (wants_none rfl) rfl (ex_pick_true rfl h11 rfl) ?_
      refine JL_q (wants_none rfl) rfl (ex_assign rfl) ?_
      refine JL_nil ?_
      refine N_then ?_
      refine J_ret ?_
      exact N_ret1 rfl (rv_tmp rfl) (fun w hh => ⟨(), rfl, hh.sel [] rfl⟩)
    · refine JL_passed rfl rfl rfl h11 ?_
      refine JL_passed rfl rfl rfl h11 ?_
      refine JL_passed rfl rfl rfl h11 ?_
      refine JL_q (wants_none rfl) rfl (ex_pick_false rfl h11 rfl) ?_
      refine JL_q (wants_none rfl) rfl (ex_assign rfl) ?_
      refine JL_nil ?_
      refine N_then ?_
      refine J_ret ?_
      exact N_ret1 rfl (rv_tmp rfl) (fun w hh => ⟨(), rfl, hh.sel [] rfl⟩)

set_option maxHeartbeats 40000000 in
theorem c_spec_l05Budget (A : Nat → Prop) (w : World) (hA : ∀ k, A k → k < w.heap.size) (p0 : Int) (r : Bool) (hr : F_spec_l05Budget p0 = some r) :
    Con Try.prog 78 [.int .i64 p0] A w (fun x_ : Unit => .bool r) (fun x_ => []) := by
  refine Con_of (v := fun (r : Bool) (x_ : Unit) => .bool r) (fs := fun r x_ => []) Try.func78 rfl Try.ntmps78 rfl (SH.start hA) rfl ?_ hr
  unfold F_spec_l05Budget
  refine J_seq ?_
  refine J_region ?_
  refine JL_q (wants_none rfl) rfl (ex_assign rfl) ?_
  refine JL_nil ?_
  refine N_then ?_
  refine J_seq ?_
  refine J_region ?_
  refine JL_q (wants_none rfl) rfl (ex_move rfl) ?_
  refine JL_bnd fun r1 hr2 => ?_
  refine JL_call (wants_none rfl) rfl Try.call86 rfl (Ca_of0 fun w hh => c_spec_l00In _ w (fun _ hk => hk.elim) _ _ _ _ hr2) (fun _ => ?_)
  refine JL_q (wants_none rfl) rfl (ex_assign rfl) ?_
  refine JL_nil ?_
  refine N_then ?_
  refine J_ret ?_
  exact N_ret1 rfl (rv_tmp rfl) (fun w hh => ⟨(), rfl, hh.sel [] rfl⟩)

set_option maxHeartbeats 40000000 in
theorem c_spec_l33Ask (A : Nat → Prop) (w : World) (hA : ∀ k, A k → k < w.heap.size) (v0_ : Value) (p0 : (List GTile)) (hp0 : Rd A w v0_ p0) (v1_ : Value) (p1 : (List Int)) (hp1 : Rd A w v1_ p1) (p2 : Int) (p3 : Int) (r : Int) (hr : F_spec_l33Ask p0 p1 p2 p3 = some r) :
    Con Try.prog 37 [v0_, v1_, .int .i64 p2, .int .i64 p3] A w (fun x_ : Unit => .int .i64 r) (fun x_ => []) := by
  refine Con_of (v := fun (r : Int) (x_ : Unit) => .int .i64 r) (fs := fun r x_ => []) Try.func37 rfl Try.ntmps37 rfl (((SH.start hA).start_rd rfl hp0).start_rd rfl hp1) rfl ?_ hr
  unfold F_spec_l33Ask
  refine J_seq ?_
  refine J_region ?_
  refine JL_q (wants_none rfl) rfl (ex_assign rfl) ?_
  refine JL_nil ?_
  refine N_then ?_
  refine J_seq ?_
  refine J_seq ?_
  refine J_region ?_
  refine JL_q (wants_none rfl) rfl (ex_move rfl) ?_
  refine JL_bnd fun r1 hr2 => ?_
  refine JL_call (wants_none rfl) rfl Try.call84 rfl (Ca_of0 fun w hh => c_spec_l33Is _ w (fun _ hk => hk.elim) _ _ (hh.rd0 1 rfl) _ hr2) (fun _ => ?_)
  refine JL_q (wants_none rfl) rfl (ex_not rfl) ?_
  refine JL_nil ?_
  refine N_then ?_
  refine J_if rfl (fun h3 => ?_) (fun h3 => ?_)
  · refine J_seq ?_
    refine J_region ?_
    refine JL_q (wants_none rfl) rfl (ex_assign rfl) ?_
    refine JL_nil ?_
    refine N_then ?_
    refine J_ret ?_
    refine N_then_ret ?_
    exact N_ret1 rfl (rv_tmp rfl) (fun w hh => ⟨(), rfl, hh.sel [] rfl⟩)
  · refine J_skip ?_
    refine N_then ?_
    refine J_seq ?_
    refine J_seq ?_
    refine J_region ?_
    refine JL_q (wants_none rfl) rfl (ex_move rfl) ?_
    refine JL_bnd fun r4 hr5 => ?_
    refine JL_call (wants_none rfl) rfl Try.call85 rfl (Ca_of0 fun w hh => c_spec_l33Frame _ w (fun _ hk => hk.elim) _ _ (hh.rd0 0 rfl) _ hr5) (fun _ => ?_)
    refine JL_q (wants_none rfl) rfl (ex_not rfl) ?_
    refine JL_q (wants_none rfl) rfl (ex_move rfl) ?_
    refine JL_cond (fun h6 => ?_) (fun h6 => ?_)
    · refine JL_passed rfl rfl rfl h6 ?_
      refine JL_passed rfl rfl rfl h6 ?_
      refine JL_passed rfl rfl rfl h6 ?_
      refine JL_q (wants_none rfl) rfl (ex_pick_true rfl h6 rfl) ?_
      refine JL_q (wants_none rfl) rfl (ex_move rfl) ?_
      refine JL_passed rfl rfl rfl rfl ?_
      refine JL_passed rfl rfl rfl rfl ?_
      refine JL_passed rfl rfl rfl rfl ?_
      refine JL_q (wants_none rfl) rfl (ex_pick_true rfl rfl rfl) ?_
      refine JL_nil ?_
      refine N_then ?_
      refine J_if_true rfl rfl ?_
      refine J_seq ?_
      refine J_region ?_
      refine JL_q (wants_none rfl) rfl (ex_assign rfl) ?_
      refine JL_nil ?_
      refine N_then ?_
      refine J_ret ?_
      refine N_then_ret ?_
      exact N_ret1 rfl (rv_tmp rfl) (fun w hh => ⟨(), rfl, hh.sel [] rfl⟩)
    · refine JL_q (wants_some rfl rfl rfl h6) rfl (ex_move rfl) ?_
      refine JL_bnd fun r7 hr8 => ?_
      refine JL_call (wants_some rfl rfl rfl h6) rfl Try.call86 rfl (Ca_of0 fun w hh => c_spec_l00In _ w (fun _ hk => hk.elim) _ _ _ _ hr8) (fun _ => ?_)
      refine JL_q (wants_some rfl rfl rfl h6) rfl (ex_not rfl) ?_
      refine JL_q (wants_none rfl) rfl (ex_pick_false rfl h6 rfl) ?_
      refine JL_q (wants_none rfl) rfl (ex_move rfl) ?_
      refine JL_cond (fun h9 => ?_) (fun h9 => ?_)
      · refine JL_passed rfl rfl rfl h9 ?_
        refine JL_passed rfl rfl rfl h9 ?_
        refine JL_passed rfl rfl rfl h9 ?_
        refine JL_q (wants_none rfl) rfl (ex_pick_true rfl h9 rfl) ?_
        refine JL_nil ?_
        refine N_then ?_
        refine J_if_true rfl rfl ?_
        refine J_seq ?_
        refine J_region ?_
        refine JL_q (wants_none rfl) rfl (ex_assign rfl) ?_
        refine JL_nil ?_
        refine N_then ?_
        refine J_ret ?_
        refine N_then_ret ?_
        exact N_ret1 rfl (rv_tmp rfl) (fun w hh => ⟨(), rfl, hh.sel [] rfl⟩)
      · refine JL_q (wants_some rfl rfl rfl h9) rfl (ex_move rfl) ?_
        refine JL_bnd fun r10 hr11 => ?_
        refine JL_call (wants_some rfl rfl rfl h9) rfl Try.call78 rfl (Ca_of0 fun w hh => c_spec_l05Budget _ w (fun _ hk => hk.elim) _ _ hr11) (fun _ => ?_)
        refine JL_q (wants_some rfl rfl rfl h9) rfl (ex_not rfl) ?_
        refine JL_q (wants_none rfl) rfl (ex_pick_false rfl h9 rfl) ?_
        refine JL_nil ?_
        refine N_then ?_
        refine J_if rfl (fun h12 => ?_) (fun h12 => ?_)
        · refine J_seq ?_
          refine J_region ?_
          refine JL_q (wants_none rfl) rfl (ex_assign rfl) ?_
          refine JL_nil ?_
          refine N_then ?_
          refine J_ret ?_
          refine N_then_ret ?_
          exact N_ret1 rfl (rv_tmp rfl) (fun w hh => ⟨(), rfl, hh.sel [] rfl⟩)
        · refine J_skip ?_
          refine N_then ?_
          refine J_seq ?_
          refine J_region ?_
          refine JL_q (wants_none rfl) rfl (ex_assign rfl) ?_
          refine JL_nil ?_
          refine N_then ?_
          refine J_ret ?_
          exact N_ret1 rfl (rv_tmp rfl) (fun w hh => ⟨(), rfl, hh.sel [] rfl⟩)

set_option maxHeartbeats 40000000 in
theorem c_spec_l33Search_fill_ind : ∀ (k_ : Nat) (w : World) (b0_ : Nat) (p0 : Gl33Search) (v0_0 : Value) (v0_1 : Value) (v0_8 : Value) (B_ : List Nat) (hB_ : Ctx.owns [.bx b0_ 76 [v0_0, v0_1, .int .i64 p0.size, .int .i64 p0.budget, .bool p0.all, .int .i64 p0.steps, .int .i64 p0.count, .bool p0.full, v0_8], .ow 2 v0_8 p0.tiles] = B_) (hn_ : PHanded w [.bx b0_ 76 [v0_0, v0_1, .int .i64 p0.size, .int .i64 p0.budget, .bool p0.all, .int .i64 p0.steps, .int .i64 p0.count, .bool p0.full, v0_8], .ow 2 v0_8 p0.tiles]) (hp0_0 : Rd (fun k => k ∈ B_) w v0_0 p0.list) (hp0_1 : Rd (fun k => k ∈ B_) w v0_1 p0.bottom) (r : (Bool) × (Int × Int × Bool × (List Int))) (hr : fixN (fun (rec_ : Gl33Search → Option ((Bool) × (Int × Int × Bool × (List Int)))) (a_ : Gl33Search) => F_spec_l33Search_fill_step (fun p0 => rec_ p0) a_) k_ p0 = some r),
    PtrCon Try.prog 38 [.pointer (some ⟨b0_, 0, none⟩)] w B_ (fun x_ : Value => .bool r.1) (fun x_ => [.bx b0_ 76 [v0_0, v0_1, .int .i64 p0.size, .int .i64 p0.budget, .bool p0.all, .int .i64 r.2.1, .int .i64 r.2.2.1, .bool r.2.2.2.1, x_], .ow 2 x_ r.2.2.2.2]) := by
  intro k_
  induction k_ with
  | zero => intro w b0_ p0 v0_0 v0_1 v0_8 B_ hB_ hn_ hp0_0 hp0_1 r hr; cases hr
  | succ k_ ih_ =>
  intro w b0_ p0 v0_0 v0_1 v0_8 B_ hB_ hn_ hp0_0 hp0_1 r hr
  replace hr : F_spec_l33Search_fill_step (fun p0 => fixN (fun (rec_ : Gl33Search → Option ((Bool) × (Int × Int × Bool × (List Int)))) (a_ : Gl33Search) => F_spec_l33Search_fill_step (fun p0 => rec_ p0) a_) k_ p0) p0 = some r := hr
  refine PtrCon_of (v := fun (r : (Bool) × (Int × Int × Bool × (List Int))) (x_ : Value) => .bool r.1) (fs := fun r x_ => [.bx b0_ 76 [v0_0, v0_1, .int .i64 p0.size, .int .i64 p0.budget, .bool p0.all, .int .i64 r.2.1, .int .i64 r.2.2.1, .bool r.2.2.2.1, x_], .ow 2 x_ r.2.2.2.2]) Try.func38 rfl Try.ntmps38 rfl (show SH nowhere (bare w) w [.rd v0_1 p0.bottom, .rd v0_0 p0.list, .bx b0_ 76 [v0_0, v0_1, .int .i64 p0.size, .int .i64 p0.budget, .bool p0.all, .int .i64 p0.steps, .int .i64 p0.count, .bool p0.full, v0_8], .ow 2 v0_8 p0.tiles, .tkn (.int .i64 0) (0 : Int) (restL w B_), rest w B_] from (((SH.begin hB_ hn_).cons_apart hB_ hp0_0).cons_apart hB_ hp0_1)) rfl ?_ hr
  unfold F_spec_l33Search_fill_step
  refine J_seq ?_
  refine J_region ?_
  refine JL_q (wants_none rfl) rfl (ex_assign rfl) ?_
  refine JL_nil ?_
  refine N_then ?_
  refine J_seq ?_
  refine J_region ?_
  refine JL_q (wants_none rfl) rfl (ex_move rfl) ?_
  refine JL_q (wants_none rfl) rfl (ex_nilCheck rfl) ?_
  refine JL_q (wants_none rfl) rfl (ex_fieldAddr fi_76_8 rfl rfl) ?_
  refine JL_q (wants_none rfl) rfl (ex_load_bx 2 ti_23 rfl rfl rfl) ?_
  refine JL_q (wants_none rfl) rfl (ex_len_ow 3 Try.underlying23 rfl rfl) ?_
  refine JL_q (wants_none rfl) rfl (ex_assign rfl) ?_
  refine JL_nil ?_
  refine N_then ?_
  refine J_seq ?_
  refine J_region ?_
  refine JL_q (wants_none rfl) rfl (ex_move rfl) ?_
  refine JL_q (wants_none rfl) rfl (ex_nilCheck rfl) ?_
  refine JL_q (wants_none rfl) rfl (ex_fieldAddr fi_76_1 rfl rfl) ?_
  refine JL_q (wants_none rfl) rfl (ex_load_bx 2 ti_23 rfl rfl rfl) ?_
  refine JL_q (wants_none rfl) rfl (ex_len_rd 0 Try.underlying23 rfl rfl) ?_
  refine JL_q (wants_none rfl) rfl (ex_assign rfl) ?_
  refine JL_nil ?_
  refine N_then ?_
  refine J_seq ?_
  refine J_seq ?_
  refine J_region ?_
  refine JL_q (wants_none rfl) rfl (ex_move rfl) ?_
  refine JL_q (wants_none rfl) rfl (ex_move rfl) ?_
  refine JL_q (wants_none rfl) rfl (ex_nilCheck rfl) ?_
  refine JL_q (wants_none rfl) rfl (ex_fieldAddr fi_76_2 rfl rfl) ?_
  refine JL_q (wants_none rfl) rfl (ex_load_bx 2 ti_3 rfl rfl rfl) ?_
  refine JL_q (wants_none rfl) rfl (ex_eql rfl rfl) ?_
  refine JL_nil ?_
  refine N_then ?_
  refine J_if rfl (fun h1 => ?_) (fun h1 => ?_)
  · refine J_seq ?_
    refine J_region ?_
    refine JL_q (wants_none rfl) rfl (ex_move rfl) ?_
    refine JL_q (wants_none rfl) rfl (ex_nilCheck rfl) ?_
    refine JL_q (wants_none rfl) rfl (ex_fieldAddr fi_76_6 rfl rfl) ?_
    refine JL_q (wants_none rfl) rfl (ex_load_bx 2 ti_2 rfl rfl rfl) ?_
    refine JL_q (wants_none rfl) rfl (ex_add rfl rfl) ?_
    refine JL_q (wants_none rfl) rfl (ex_nilCheck rfl) ?_
    refine JL_q (wants_none rfl) rfl (ex_fieldAddr fi_76_6 rfl rfl) ?_
    refine JL_sk (wants_none rfl) (sk_store_bx' 2 ti_2 rfl rfl (fun w hh => cv_int) rfl rfl rfl rfl) ?_
    refine JL_nil ?_
    refine N_then ?_
    refine J_seq ?_
    refine J_region ?_
    refine JL_q (wants_none rfl) rfl (ex_move rfl) ?_
    refine JL_q (wants_none rfl) rfl (ex_nilCheck rfl) ?_
    refine JL_q (wants_none rfl) rfl (ex_fieldAddr fi_76_4 rfl rfl) ?_
    refine JL_q (wants_none rfl) rfl (ex_load_bx 2 ti_4 rfl rfl rfl) ?_
    refine JL_q (wants_none rfl) rfl (ex_not rfl) ?_
    refine JL_q (wants_none rfl) rfl (ex_assign rfl) ?_
    refine JL_nil ?_
    refine N_then ?_
    refine J_ret ?_
    refine N_then_ret ?_
    exact N_ret1 rfl (rv_tmp rfl) (fun w hh => ⟨v0_8, rfl, hh.sel [2, 3, 4, 5] rfl⟩)
  · refine J_skip ?_
    refine N_then ?_
    refine J_seq ?_
    refine J_region ?_
    refine JL_q (wants_none rfl) rfl (ex_assign rfl) ?_
    refine JL_nil ?_
    refine N_then ?_
    refine J_seq ?_
    refine J_cut' (S' := Int) (G' := Unit) (fun s2 _ => [(0, .pointer (some ⟨b0_, 0, none⟩)), (3, .int .i64 (p0.tiles.length : Int)), (4, .int .i64 (p0.bottom.length : Int)), (5, .int .i64 s2)]) (fun s2 _ => [rest w B_, .rd v0_0 p0.list, .rd v0_1 p0.bottom, .ow 2 v0_8 p0.tiles, .bx b0_ 76 [v0_0, v0_1, .int .i64 p0.size, .int .i64 p0.budget, .bool p0.all, .int .i64 p0.steps, .int .i64 p0.count, .bool p0.full, v0_8], .tkn (.int .i64 0) (0 : Int) (restL w B_)]) ?_ (fun s2 g3 => ?_)
    · refine J_seq ?_
      refine J_region ?_
      refine JL_q (wants_none rfl) rfl (ex_move rfl) ?_
      refine JL_q (wants_none rfl) rfl (ex_move rfl) ?_
      refine JL_bnd fun u4 hu5 => ?_
      refine JL_q (wants_none rfl) rfl (ex_rem rfl rfl (nz_ne hu5)) ?_
      refine JL_q (wants_none rfl) rfl (ex_gtr rfl rfl) ?_
      refine JL_nil ?_
      refine N_then ?_
      refine J_if rfl (fun h6 => ?_) (fun h6 => ?_)
      · refine J_draw [3] (by kernel_rfl) ?_
        refine JP_take (i := 0) [0, 1, 2, 4, 5] [3] rfl (by kernel_rfl) (by kernel_rfl) (by kernel_rfl) rfl rfl (wants_none rfl) rfl (ex_move rfl) ?_
        refine JP_take (i := 1) [0, 1, 2, 4, 5] [3] rfl (by kernel_rfl) (by kernel_rfl) (by kernel_rfl) rfl rfl (wants_none rfl) rfl (ex_nilCheck rfl) ?_
        refine JP_take (i := 2) [0, 1, 2, 4, 5] [3] rfl (by kernel_rfl) (by kernel_rfl) (by kernel_rfl) rfl rfl (wants_none rfl) rfl (ex_fieldAddr fi_76_0 rfl rfl) ?_
        refine JP_take (i := 3) [0, 1, 2, 4, 5] [3] rfl (by kernel_rfl) (by kernel_rfl) (by kernel_rfl) rfl rfl (wants_none rfl) rfl (ex_load_bx 2 ti_28 rfl rfl rfl) ?_
        refine JP_take (i := 4) [0, 1, 2, 4, 5] [3] rfl (by kernel_rfl) (by kernel_rfl) (by kernel_rfl) rfl rfl (wants_none rfl) rfl (ex_move rfl) ?_
        refine JP_take (i := 5) [0, 1, 2, 4, 5] [3] rfl (by kernel_rfl) (by kernel_rfl) (by kernel_rfl) rfl rfl (wants_none rfl) rfl (ex_nilCheck rfl) ?_
        refine JP_take (i := 6) [0, 1, 2, 4, 5] [3] rfl (by kernel_rfl) (by kernel_rfl) (by kernel_rfl) rfl rfl (wants_none rfl) rfl (ex_fieldAddr fi_76_8 rfl rfl) ?_
        refine JP_take (i := 7) [0, 1, 2, 4, 5] [3] rfl (by kernel_rfl) (by kernel_rfl) (by kernel_rfl) rfl rfl (wants_none rfl) rfl (ex_load_bx 2 ti_23 rfl rfl rfl) ?_
        refine JP_take (i := 8) [0, 1, 2, 4, 5] [3] rfl (by kernel_rfl) (by kernel_rfl) (by kernel_rfl) rfl rfl (wants_none rfl) rfl (ex_move rfl) ?_
        refine JP_take (i := 9) [0, 1, 2, 4, 5] [3] rfl (by kernel_rfl) (by kernel_rfl) (by kernel_rfl) rfl rfl (wants_none rfl) rfl (ex_sub rfl rfl) ?_
        refine JP_bnd fun y7 hy8 => ?_
        refine JP_ow_open (v := v0_8) 3 rfl hy8 ?_; rintro b9 cap10 rfl
        refine JP_take (i := 10) [0, 1, 2, 4, 5] [3] rfl (by kernel_rfl) (by kernel_rfl) (by kernel_rfl) rfl rfl (wants_none rfl) rfl (ex_index_own Try.underlying23 ti_2 rfl rfl hy8 (by first | rfl | simp)) ?_
        refine JP_go [0, 1, 2, 4, 5] [3] rfl rfl rfl (fun w12 h1_13 hp11 => ?_)
        refine JD_one (i := 11) (by kernel_rfl) ?_
        refine JO_q rfl (wants_none rfl) rfl (ex_load_ow_int 3 ti_2 rfl rfl hy8) ?_
        refine JD_bnd fun y15 hy16 => ?_
        refine JD_sq (i := 12) (fs := fun q17 => [.pt q17 y15]) [3] h1_13 rfl rfl (by kernel_rfl) (by kernel_rfl) (by kernel_rfl) (wants_none rfl) rfl (sq_index 1 Try.underlying28 ti_79 rfl rfl rfl hy16) (fun _ => rfl) (fun q17 h1_18 => ?_)
        refine JD_sq (i := 13) (fs := fun q19 => [.pt q19 y15.Right]) [4] h1_18 rfl rfl (by kernel_rfl) (by kernel_rfl) (by kernel_rfl) (wants_none rfl) rfl (sq_field_pt 0 (GTile.at_Right _) fi_79_2 rfl rfl rfl) (fun _ => rfl) (fun q19 h1_20 => ?_)
        refine JD_sq (i := 14) [5] h1_20 rfl rfl (by kernel_rfl) (by kernel_rfl) (by kernel_rfl) (wants_none rfl) rfl (sq_load_pt_o 0 (opens_int _) ti_2 rfl rfl) (fun _ => rfl) (fun _ h1_22 => ?_)
        refine JD_take (i := 15) hp11 rfl (by kernel_rfl) (by kernel_rfl) (by kernel_rfl) (wants_none rfl) rfl (ex_assign rfl) ?_
        refine JD_done (by kernel_rfl) ?_
        exact N_meet' () ⟨rfl, rfl, rfl, rfl, trivial⟩ [7, 3, 2, 5, 4, 6] rfl rfl
      · refine J_skip ?_
        exact N_meet' () ⟨rfl, rfl, rfl, rfl, trivial⟩ [5, 1, 0, 3, 2, 4] rfl rfl
    · refine N_then ?_
      refine J_seq ?_
      refine J_draw [] (by kernel_rfl) ?_
      refine JP_take (i := 0) [0, 1, 2, 3, 4, 5] [] rfl (by kernel_rfl) (by kernel_rfl) (by kernel_rfl) rfl rfl (wants_none rfl) rfl (ex_move rfl) ?_
      refine JP_take (i := 1) [0, 1, 2, 3, 4, 5] [] rfl (by kernel_rfl) (by kernel_rfl) (by kernel_rfl) rfl rfl (wants_none rfl) rfl (ex_nilCheck rfl) ?_
      refine JP_take (i := 2) [0, 1, 2, 3, 4, 5] [] rfl (by kernel_rfl) (by kernel_rfl) (by kernel_rfl) rfl rfl (wants_none rfl) rfl (ex_fieldAddr fi_76_1 rfl rfl) ?_
      refine JP_take (i := 3) [0, 1, 2, 3, 4, 5] [] rfl (by kernel_rfl) (by kernel_rfl) (by kernel_rfl) rfl rfl (wants_none rfl) rfl (ex_load_bx 4 ti_23 rfl rfl rfl) ?_
      refine JP_take (i := 4) [0, 1, 2, 3, 4, 5] [] rfl (by kernel_rfl) (by kernel_rfl) (by kernel_rfl) rfl rfl (wants_none rfl) rfl (ex_move rfl) ?_
      refine JP_take (i := 5) [0, 1, 2, 3, 4, 5] [] rfl (by kernel_rfl) (by kernel_rfl) (by kernel_rfl) rfl rfl (wants_none rfl) rfl (ex_move rfl) ?_
      refine JP_bnd fun u23 hu24 => ?_
      refine JP_take (i := 6) [0, 1, 2, 3, 4, 5] [] rfl (by kernel_rfl) (by kernel_rfl) (by kernel_rfl) rfl rfl (wants_none rfl) rfl (ex_rem rfl rfl (nz_ne hu24)) ?_
      refine JP_bnd fun y25 hy26 => ?_
      refine JP_sq (i := 7) [] rfl (by kernel_rfl) (by kernel_rfl) (by kernel_rfl) rfl (wants_none rfl) rfl (sq_index 2 Try.underlying23 ti_2 rfl rfl rfl hy26) (fun q27 => ?_)
      refine JP_sq (i := 8) [] rfl (by kernel_rfl) (by kernel_rfl) (by kernel_rfl) rfl (wants_none rfl) rfl (sq_load_pt_o 0 (opens_int _) ti_2 rfl rfl) (fun _ => ?_)
      refine JP_take (i := 9) [0, 1, 2, 3, 4, 5, 6] [] rfl (by kernel_rfl) (by kernel_rfl) (by kernel_rfl) rfl rfl (wants_none rfl) rfl (ex_assign rfl) ?_
      refine JP_go [] [] rfl rfl rfl (fun _ _ _ => ?_)
      refine JD_done (by kernel_rfl) ?_
      refine N_then ?_
      refine J_seq ?_
      refine J_cut' (S' := Int) (G' := Unit) (fun s29 _ => [(0, .pointer (some ⟨b0_, 0, none⟩)), (3, .int .i64 (p0.tiles.length : Int)), (4, .int .i64 (p0.bottom.length : Int)), (5, .int .i64 s2), (6, .int .i64 s29)]) (fun s29 _ => [rest w B_, .rd v0_0 p0.list, .rd v0_1 p0.bottom, .ow 2 v0_8 p0.tiles, .bx b0_ 76 [v0_0, v0_1, .int .i64 p0.size, .int .i64 p0.budget, .bool p0.all, .int .i64 p0.steps, .int .i64 p0.count, .bool p0.full, v0_8], .tkn (.int .i64 0) (0 : Int) (restL w B_)]) ?_ (fun s29 g30 => ?_)
      · refine J_seq ?_
        refine J_region ?_
        refine JL_q (wants_none rfl) rfl (ex_move rfl) ?_
        refine JL_q (wants_none rfl) rfl (ex_move rfl) ?_
        refine JL_q (wants_none rfl) rfl (ex_geq rfl rfl) ?_
        refine JL_nil ?_
        refine N_then ?_
        refine J_if rfl (fun h31 => ?_) (fun h31 => ?_)
        · refine J_draw [4] (by kernel_rfl) ?_
          refine JP_take (i := 0) [0, 1, 2, 3, 5, 6] [4] rfl (by kernel_rfl) (by kernel_rfl) (by kernel_rfl) rfl rfl (wants_none rfl) rfl (ex_move rfl) ?_
          refine JP_take (i := 1) [0, 1, 2, 3, 5, 6] [4] rfl (by kernel_rfl) (by kernel_rfl) (by kernel_rfl) rfl rfl (wants_none rfl) rfl (ex_nilCheck rfl) ?_
          refine JP_take (i := 2) [0, 1, 2, 3, 5, 6] [4] rfl (by kernel_rfl) (by kernel_rfl) (by kernel_rfl) rfl rfl (wants_none rfl) rfl (ex_fieldAddr fi_76_0 rfl rfl) ?_
          refine JP_take (i := 3) [0, 1, 2, 3, 5, 6] [4] rfl (by kernel_rfl) (by kernel_rfl) (by kernel_rfl) rfl rfl (wants_none rfl) rfl (ex_load_bx 4 ti_28 rfl rfl rfl) ?_
          refine JP_take (i := 4) [0, 1, 2, 3, 5, 6] [4] rfl (by kernel_rfl) (by kernel_rfl) (by kernel_rfl) rfl rfl (wants_none rfl) rfl (ex_move rfl) ?_
          refine JP_take (i := 5) [0, 1, 2, 3, 5, 6] [4] rfl (by kernel_rfl) (by kernel_rfl) (by kernel_rfl) rfl rfl (wants_none rfl) rfl (ex_nilCheck rfl) ?_
          refine JP_take (i := 6) [0, 1, 2, 3, 5, 6] [4] rfl (by kernel_rfl) (by kernel_rfl) (by kernel_rfl) rfl rfl (wants_none rfl) rfl (ex_fieldAddr fi_76_8 rfl rfl) ?_
          refine JP_take (i := 7) [0, 1, 2, 3, 5, 6] [4] rfl (by kernel_rfl) (by kernel_rfl) (by kernel_rfl) rfl rfl (wants_none rfl) rfl (ex_load_bx 4 ti_23 rfl rfl rfl) ?_
          refine JP_take (i := 8) [0, 1, 2, 3, 5, 6] [4] rfl (by kernel_rfl) (by kernel_rfl) (by kernel_rfl) rfl rfl (wants_none rfl) rfl (ex_move rfl) ?_
          refine JP_take (i := 9) [0, 1, 2, 3, 5, 6] [4] rfl (by kernel_rfl) (by kernel_rfl) (by kernel_rfl) rfl rfl (wants_none rfl) rfl (ex_move rfl) ?_
          refine JP_take (i := 10) [0, 1, 2, 3, 5, 6] [4] rfl (by kernel_rfl) (by kernel_rfl) (by kernel_rfl) rfl rfl (wants_none rfl) rfl (ex_sub rfl rfl) ?_
          refine JP_bnd fun y32 hy33 => ?_
          refine JP_ow_open (v := v0_8) 4 rfl hy33 ?_; rintro b34 cap35 rfl
          refine JP_take (i := 11) [0, 1, 2, 3, 5, 6] [4] rfl (by kernel_rfl) (by kernel_rfl) (by kernel_rfl) rfl rfl (wants_none rfl) rfl (ex_index_own Try.underlying23 ti_2 rfl rfl hy33 (by first | rfl | simp)) ?_
          refine JP_go [0, 1, 2, 3, 5, 6] [4] rfl rfl rfl (fun w37 h1_38 hp36 => ?_)
          refine JD_one (i := 12) (by kernel_rfl) ?_
          refine JO_q rfl (wants_none rfl) rfl (ex_load_ow_int 4 ti_2 rfl rfl hy33) ?_
          refine JD_bnd fun y40 hy41 => ?_
          refine JD_sq (i := 13) (fs := fun q42 => [.pt q42 y40]) [4] h1_38 rfl rfl (by kernel_rfl) (by kernel_rfl) (by kernel_rfl) (wants_none rfl) rfl (sq_index 2 Try.underlying28 ti_79 rfl rfl rfl hy41) (fun _ => rfl) (fun q42 h1_43 => ?_)
          refine JD_sq (i := 14) (fs := fun q44 => [.pt q44 y40.Top]) [5] h1_43 rfl rfl (by kernel_rfl) (by kernel_rfl) (by kernel_rfl) (wants_none rfl) rfl (sq_field_pt 0 (GTile.at_Top _) fi_79_3 rfl rfl rfl) (fun _ => rfl) (fun q44 h1_45 => ?_)
          refine JD_sq (i := 15) [6] h1_45 rfl rfl (by kernel_rfl) (by kernel_rfl) (by kernel_rfl) (wants_none rfl) rfl (sq_load_pt_o 0 (opens_int _) ti_2 rfl rfl) (fun _ => rfl) (fun _ h1_47 => ?_)
          refine JD_take (i := 16) hp36 rfl (by kernel_rfl) (by kernel_rfl) (by kernel_rfl) (wants_none rfl) rfl (ex_assign rfl) ?_
          refine JD_done (by kernel_rfl) ?_
          exact N_meet' () ⟨rfl, rfl, rfl, rfl, rfl, trivial⟩ [3, 4, 5, 6, 7, 8] rfl rfl
        · refine J_skip ?_
          exact N_meet' () ⟨rfl, rfl, rfl, rfl, rfl, trivial⟩ [1, 2, 3, 4, 5, 6] rfl rfl
      · refine N_then ?_
        refine J_seq ?_
        refine J_seq ?_
        refine J_region ?_
        refine JL_q (wants_none rfl) rfl (ex_assign rfl) ?_
        refine JL_nil ?_
        refine N_then ?_
        refine J_loop' (S := Int × Int × Bool × (List Int) × Int) (G := Value) (F_spec_l33Search_fill_L1 p0 (fun p0 => fixN (fun (rec_ : Gl33Search → Option ((Bool) × (Int × Int × Bool × (List Int)))) (a_ : Gl33Search) => F_spec_l33Search_fill_step (fun p0 => rec_ p0) a_) k_ p0) s2 s29) (fun s48 g49 => [(0, .pointer (some ⟨b0_, 0, none⟩)), (3, .int .i64 (p0.tiles.length : Int)), (4, .int .i64 (p0.bottom.length : Int)), (5, .int .i64 s2), (6, .int .i64 s29), (7, .int .i64 s48.2.2.2.2)]) (fun s48 g49 => [rest w B_, .rd v0_0 p0.list, .rd v0_1 p0.bottom, .ow 2 g49 s48.2.2.2.1, .bx b0_ 76 [v0_0, v0_1, .int .i64 p0.size, .int .i64 p0.budget, .bool p0.all, .int .i64 s48.1, .int .i64 s48.2.1, .bool s48.2.2.1, g49], .tkn (.int .i64 0) (0 : Int) (restL w B_)]) (p0.steps, p0.count, p0.full, p0.tiles, 0) v0_8 ⟨rfl, rfl, rfl, rfl, rfl, rfl, trivial⟩ [0, 1, 2, 3, 4, 5] rfl rfl (fun s48 g49 => ?_) (fun s48 g49 => ?_)
        · unfold F_spec_l33Search_fill_L1
          refine J_seq ?_
          refine J_seq ?_
          refine J_region ?_
          refine JL_q (wants_none rfl) rfl (ex_move rfl) ?_
          refine JL_q (wants_none rfl) rfl (ex_move rfl) ?_
          refine JL_q (wants_none rfl) rfl (ex_nilCheck rfl) ?_
          refine JL_q (wants_none rfl) rfl (ex_fieldAddr fi_76_0 rfl rfl) ?_
          refine JL_q (wants_none rfl) rfl (ex_load_bx 4 ti_28 rfl rfl rfl) ?_
          refine JL_q (wants_none rfl) rfl (ex_len_rd 1 Try.underlying28 rfl rfl) ?_
          refine JL_q (wants_none rfl) rfl (ex_lss rfl rfl) ?_
          refine JL_nil ?_
          refine N_then ?_
          refine J_if rfl (fun h50 => ?_) (fun h50 => ?_)
          · refine J_skip ?_
            refine N_then ?_
            refine J_seq ?_
            refine J_block ?_
            refine J_seq ?_
            refine J_region ?_
            refine JL_q (wants_none rfl) rfl (ex_move rfl) ?_
            refine JL_q (wants_none rfl) rfl (ex_nilCheck rfl) ?_
            refine JL_q (wants_none rfl) rfl (ex_fieldAddr fi_76_0 rfl rfl) ?_
            refine JL_q (wants_none rfl) rfl (ex_load_bx 4 ti_28 rfl rfl rfl) ?_
            refine JL_q (wants_none rfl) rfl (ex_move rfl) ?_
            refine JL_bnd fun y51 hy52 => ?_
            refine JL_st (wants_none rfl) rfl (st_index 1 Try.underlying28 ti_79 rfl rfl rfl hy52) (fun q53 => ?_)
            refine JL_st (wants_none rfl) rfl (st_load_pt_o 0 (GTile.opens _) ti_79 rfl rfl) (fun _ => ?_)
            refine JL_st (wants_none rfl) rfl (st_alloc zi_79 rfl) (fun b55 => ?_)
            refine JL_sk (wants_none rfl) (sk_store_bx' 0 ti_79 rfl rfl (fun w hh => (cv_aggs ⟨cv_int, cv_int, cv_int, cv_int, trivial⟩)) rfl rfl rfl rfl) ?_
            refine JL_nil ?_
            refine N_then ?_
            refine J_seq ?_
            refine J_seq ?_
            refine J_cut' (S' := Bool) (G' := Unit) (fun s56 _ => [(0, .pointer (some ⟨b0_, 0, none⟩)), (3, .int .i64 (p0.tiles.length : Int)), (4, .int .i64 (p0.bottom.length : Int)), (5, .int .i64 s2), (6, .int .i64 s29), (7, .int .i64 s48.2.2.2.2), (122, .bool s56)]) (fun s56 _ => [rest w B_, .rd v0_0 p0.list, .rd v0_1 p0.bottom, .ow 2 g49 s48.2.2.2.1, .bx b0_ 76 [v0_0, v0_1, .int .i64 p0.size, .int .i64 p0.budget, .bool p0.all, .int .i64 s48.1, .int .i64 s48.2.1, .bool s48.2.2.1, g49], .tkn (.int .i64 0) (0 : Int) (restL w B_)]) ?_ (fun s56 g57 => ?_)
            · refine J_region ?_
              refine JL_q (wants_none rfl) rfl (ex_fieldAddr fi_79_0 rfl rfl) ?_
              refine JL_q (wants_none rfl) rfl (ex_load_bx 0 ti_2 rfl rfl rfl) ?_
              refine JL_q (wants_none rfl) rfl (ex_move rfl) ?_
              refine JL_q (wants_none rfl) rfl (ex_neq rfl rfl) ?_
              refine JL_q (wants_none rfl) rfl (ex_move rfl) ?_
              refine JL_cond (fun h58 => ?_) (fun h58 => ?_)
              · refine JL_passed rfl rfl rfl h58 ?_
                refine JL_passed rfl rfl rfl h58 ?_
                refine JL_passed rfl rfl rfl h58 ?_
                refine JL_passed rfl rfl rfl h58 ?_
                refine JL_q (wants_none rfl) rfl (ex_pick_true rfl h58 rfl) ?_
                refine JL_q (wants_none rfl) rfl (ex_move rfl) ?_
                refine JL_passed rfl rfl rfl rfl ?_
                refine JL_passed rfl rfl rfl rfl ?_
                refine JL_passed rfl rfl rfl rfl ?_
                refine JL_passed rfl rfl rfl rfl ?_
                refine JL_passed rfl rfl rfl rfl ?_
                refine JL_passed rfl rfl rfl rfl ?_
                refine JL_passed rfl rfl rfl rfl ?_
                refine JL_passed_undef rfl rfl rfl ?_
                refine JL_passed_undef rfl rfl rfl ?_
                refine JL_passed_undef rfl rfl rfl ?_
                refine JL_passed rfl rfl rfl rfl ?_
                refine JL_q (wants_none rfl) rfl (ex_pick_true rfl rfl rfl) ?_
                refine JL_nil ?_
                exact N_meet' () ⟨rfl, rfl, rfl, rfl, rfl, rfl, rfl, trivial⟩ [2, 3, 4, 5, 6, 7] rfl rfl
              · refine JL_q (wants_some rfl rfl rfl h58) rfl (ex_fieldAddr fi_79_1 rfl rfl) ?_
                refine JL_q (wants_some rfl rfl rfl h58) rfl (ex_load_bx 0 ti_2 rfl rfl rfl) ?_
                refine JL_q (wants_some rfl rfl rfl h58) rfl (ex_move rfl) ?_
                refine JL_q (wants_some rfl rfl rfl h58) rfl (ex_neq rfl rfl) ?_
                refine JL_q (wants_none rfl) rfl (ex_pick_false rfl h58 rfl) ?_
                refine JL_q (wants_none rfl) rfl (ex_move rfl) ?_
                refine JL_cond (fun h59 => ?_) (fun h59 => ?_)
                · refine JL_passed rfl rfl rfl h59 ?_
                  refine JL_passed rfl rfl rfl h59 ?_
                  refine JL_passed rfl rfl rfl h59 ?_
                  refine JL_passed rfl rfl rfl h59 ?_
                  refine JL_passed rfl rfl rfl h59 ?_
                  refine JL_passed rfl rfl rfl h59 ?_
                  refine JL_passed rfl rfl rfl h59 ?_
                  refine JL_passed_undef rfl rfl rfl ?_
                  refine JL_passed_undef rfl rfl rfl ?_
                  refine JL_passed_undef rfl rfl rfl ?_
                  refine JL_passed rfl rfl rfl h59 ?_
                  refine JL_q (wants_none rfl) rfl (ex_pick_true rfl h59 rfl) ?_
                  refine JL_nil ?_
                  exact N_meet' () ⟨rfl, rfl, rfl, rfl, rfl, rfl, rfl, trivial⟩ [2, 3, 4, 5, 6, 7] rfl rfl
                · refine JL_q (wants_some rfl rfl rfl h59) rfl (ex_move rfl) ?_
                  refine JL_q (wants_some rfl rfl rfl h59) rfl (ex_move rfl) ?_
                  refine JL_bnd fun u60 hu61 => ?_
                  refine JL_q (wants_some rfl rfl rfl h59) rfl (ex_rem rfl rfl (nz_ne hu61)) ?_
                  refine JL_q (wants_some rfl rfl rfl h59) rfl (ex_move rfl) ?_
                  refine JL_q (wants_some rfl rfl rfl h59) rfl (ex_sub rfl rfl) ?_
                  refine JL_q (wants_some rfl rfl rfl h59) rfl (ex_eql rfl rfl) ?_
                  refine JL_q (wants_some rfl rfl rfl h59) rfl (ex_move rfl) ?_
                  refine JL_cond (fun h62 => ?_) (fun h62 => ?_)
                  · refine JL_q (wants_some rfl rfl rfl h62) rfl (ex_fieldAddr fi_79_2 rfl rfl) ?_
                    refine JL_q (wants_some rfl rfl rfl h62) rfl (ex_load_bx 0 ti_2 rfl rfl rfl) ?_
                    refine JL_q (wants_some rfl rfl rfl h62) rfl (ex_neq rfl rfl) ?_
                    refine JL_q (wants_some rfl rfl rfl h59) rfl (ex_pick_true rfl h62 rfl) ?_
                    refine JL_q (wants_none rfl) rfl (ex_pick_false rfl h59 rfl) ?_
                    refine JL_nil ?_
                    exact N_meet' () ⟨rfl, rfl, rfl, rfl, rfl, rfl, rfl, trivial⟩ [2, 3, 4, 5, 6, 7] rfl rfl
                  · refine JL_passed rfl rfl rfl h62 ?_
                    refine JL_passed rfl rfl rfl h62 ?_
                    refine JL_passed rfl rfl rfl h62 ?_
                    refine JL_q (wants_some rfl rfl rfl h59) rfl (ex_pick_false rfl h62 rfl) ?_
                    refine JL_q (wants_none rfl) rfl (ex_pick_false rfl h59 rfl) ?_
                    refine JL_nil ?_
                    exact N_meet' () ⟨rfl, rfl, rfl, rfl, rfl, rfl, rfl, trivial⟩ [2, 3, 4, 5, 6, 7] rfl rfl
            · refine N_then ?_
              refine J_if rfl (fun h63 => ?_) (fun h63 => ?_)
              · refine J_exit ?_
                refine N_then_exit ?_
                refine N_block_exit ?_
                refine N_then ?_
                refine J_region ?_
                refine JL_q (wants_none rfl) rfl (ex_move rfl) ?_
                refine JL_q (wants_none rfl) rfl (ex_add rfl rfl) ?_
                refine JL_q (wants_none rfl) rfl (ex_assign rfl) ?_
                refine JL_nil ?_
                exact N_next' g49 ⟨rfl, rfl, rfl, rfl, rfl, rfl, trivial⟩ [0, 1, 2, 3, 4, 5] rfl rfl
              · refine J_skip ?_
                refine N_then ?_
                refine J_seq ?_
                refine J_seq ?_
                refine J_draw [] (by kernel_rfl) ?_
                refine JP_take (i := 0) [0, 1, 2, 3, 4, 5] [] rfl (by kernel_rfl) (by kernel_rfl) (by kernel_rfl) rfl rfl (wants_none rfl) rfl (ex_move rfl) ?_
                refine JP_take (i := 1) [0, 1, 2, 3, 4, 5] [] rfl (by kernel_rfl) (by kernel_rfl) (by kernel_rfl) rfl rfl (wants_none rfl) rfl (ex_nilCheck rfl) ?_
                refine JP_take (i := 2) [0, 1, 2, 3, 4, 5] [] rfl (by kernel_rfl) (by kernel_rfl) (by kernel_rfl) rfl rfl (wants_none rfl) rfl (ex_fieldAddr fi_76_5 rfl rfl) ?_
                refine JP_take (i := 3) [0, 1, 2, 3, 4, 5] [] rfl (by kernel_rfl) (by kernel_rfl) (by kernel_rfl) rfl rfl (wants_none rfl) rfl (ex_load_bx 4 ti_2 rfl rfl rfl) ?_
                refine JP_take (i := 4) [0, 1, 2, 3, 4, 5] [] rfl (by kernel_rfl) (by kernel_rfl) (by kernel_rfl) rfl rfl (wants_none rfl) rfl (ex_move rfl) ?_
                refine JP_take (i := 5) [0, 1, 2, 3, 4, 5] [] rfl (by kernel_rfl) (by kernel_rfl) (by kernel_rfl) rfl rfl (wants_none rfl) rfl (ex_nilCheck rfl) ?_
                refine JP_take (i := 6) [0, 1, 2, 3, 4, 5] [] rfl (by kernel_rfl) (by kernel_rfl) (by kernel_rfl) rfl rfl (wants_none rfl) rfl (ex_fieldAddr fi_76_3 rfl rfl) ?_
                refine JP_take (i := 7) [0, 1, 2, 3, 4, 5] [] rfl (by kernel_rfl) (by kernel_rfl) (by kernel_rfl) rfl rfl (wants_none rfl) rfl (ex_load_bx 4 ti_2 rfl rfl rfl) ?_
                refine JP_take (i := 8) [0, 1, 2, 3, 4, 5] [] rfl (by kernel_rfl) (by kernel_rfl) (by kernel_rfl) rfl rfl (wants_none rfl) rfl (ex_eql rfl rfl) ?_
                refine JP_go [] [] rfl rfl rfl (fun _ _ _ => ?_)
                refine JD_done (by kernel_rfl) ?_
                refine N_then ?_
                refine J_if rfl (fun h64 => ?_) (fun h64 => ?_)
                · refine J_seq ?_
                  refine J_region ?_
                  refine JL_q (wants_none rfl) rfl (ex_move rfl) ?_
                  refine JL_q (wants_none rfl) rfl (ex_nilCheck rfl) ?_
                  refine JL_q (wants_none rfl) rfl (ex_fieldAddr fi_76_7 rfl rfl) ?_
                  refine JL_sk (wants_none rfl) (sk_store_bx' 4 ti_4 rfl rfl (fun w hh => cv_bool) rfl rfl rfl rfl) ?_
                  refine JL_nil ?_
                  refine N_then ?_
                  refine J_seq ?_
                  refine J_region ?_
                  refine JL_q (wants_none rfl) rfl (ex_assign rfl) ?_
                  refine JL_nil ?_
                  refine N_then ?_
                  refine J_ret ?_
                  refine N_then_ret ?_
                  refine N_block_ret ?_
                  refine N_then_ret ?_
                  refine N_round_ret ?_
                  refine N_then_ret ?_
                  exact N_ret1 rfl (rv_tmp rfl) (fun w hh => ⟨g49, rfl, hh.sel [4, 3, 5, 0] rfl⟩)
                · refine J_skip ?_
                  refine N_then ?_
                  refine J_seq ?_
                  refine J_region ?_
                  refine JL_q (wants_none rfl) rfl (ex_move rfl) ?_
                  refine JL_q (wants_none rfl) rfl (ex_nilCheck rfl) ?_
                  refine JL_q (wants_none rfl) rfl (ex_fieldAddr fi_76_5 rfl rfl) ?_
                  refine JL_q (wants_none rfl) rfl (ex_load_bx 4 ti_2 rfl rfl rfl) ?_
                  refine JL_q (wants_none rfl) rfl (ex_add rfl rfl) ?_
                  refine JL_q (wants_none rfl) rfl (ex_nilCheck rfl) ?_
                  refine JL_q (wants_none rfl) rfl (ex_fieldAddr fi_76_5 rfl rfl) ?_
                  refine JL_sk (wants_none rfl) (sk_store_bx' 4 ti_2 rfl rfl (fun w hh => cv_int) rfl rfl rfl rfl) ?_
                  refine JL_nil ?_
                  refine N_then ?_
                  refine J_seq ?_
                  refine J_region ?_
                  refine JL_q (wants_none rfl) rfl (ex_move rfl) ?_
                  refine JL_q (wants_none rfl) rfl (ex_move rfl) ?_
                  refine JL_q (wants_none rfl) rfl (ex_nilCheck rfl) ?_
                  refine JL_q (wants_none rfl) rfl (ex_fieldAddr fi_76_8 rfl rfl) ?_
                  refine JL_q (wants_none rfl) rfl (ex_load_bx 4 ti_23 rfl rfl rfl) ?_
                  refine JL_q (wants_none rfl) rfl (ex_move rfl) ?_
                  refine JL_st (wants_none rfl) rfl (st_buildSlice (vs := [.int .i64 s48.2.2.2.2]) ([s48.2.2.2.2] : List Int) Try.underlying23 ti_2 zi_2 rfl rfl rfl (fun w hh => ⟨(Rd.mk_int _ _ _), trivial⟩)) (fun b65 => ?_)
                  refine JL_bnd fun z66 hz67 => ?_
                  refine JL_st (wants_none rfl) rfl (st_append 4 Try.underlying23 ti_2 zi_2 rfl bi_2 rfl rfl rfl rfl (fun w hh => hh.src_ow 0 rfl) hz67) (fun v68 => ?_)
                  refine JL_q (wants_none rfl) rfl (ex_nilCheck rfl) ?_
                  refine JL_q (wants_none rfl) rfl (ex_fieldAddr fi_76_8 rfl rfl) ?_
                  refine JL_sk (wants_none rfl) (sk_store_bx' 5 ti_23 rfl rfl (fun w hh => (hh.cv_ow 4 rfl)) rfl rfl rfl rfl) ?_
                  refine JL_nil ?_
                  refine N_then ?_
                  refine J_seq ?_
                  refine J_seq ?_
                  refine J_region ?_
                  refine JL_q (wants_none rfl) rfl (ex_move rfl) ?_
                  refine JL_bnd fun r69 hr70 => ?_
                  refine JL_callT (wants_none rfl) rfl Try.call38 rfl (CaT_of [5, 4] [0, 1, 2, 3, 6] rfl rfl (fun _ => rfl) fun w hh => ih_ w b0_ (⟨p0.list, p0.bottom, p0.size, p0.budget, p0.all, (w64 (s48.1 + 1)), s48.2.1, s48.2.2.1, z66⟩ : Gl33Search) v0_0 v0_1 v68 _ rfl (hh.handed [5, 4] rfl rfl rfl rfl) (hh.apart [5, 4] rfl (hh.rd 2 rfl)) (hh.apart [5, 4] rfl (hh.rd 3 rfl)) _ hr70) (fun x71 => ?_)
                  refine JL_nil ?_
                  refine N_then ?_
                  refine J_if rfl (fun h72 => ?_) (fun h72 => ?_)
                  · refine J_seq ?_
                    refine J_region ?_
                    refine JL_q (wants_none rfl) rfl (ex_assign rfl) ?_
                    refine JL_nil ?_
                    refine N_then ?_
                    refine J_ret ?_
                    refine N_then_ret ?_
                    refine N_block_ret ?_
                    refine N_then_ret ?_
                    refine N_round_ret ?_
                    refine N_then_ret ?_
                    exact N_ret1 rfl (rv_tmp rfl) (fun w hh => ⟨x71, rfl, hh.sel [0, 1, 6, 3] rfl⟩)
                  · refine J_skip ?_
                    refine N_then ?_
                    refine J_region ?_
                    refine JL_q (wants_none rfl) rfl (ex_move rfl) ?_
                    refine JL_q (wants_none rfl) rfl (ex_move rfl) ?_
                    refine JL_q (wants_none rfl) rfl (ex_nilCheck rfl) ?_
                    refine JL_q (wants_none rfl) rfl (ex_fieldAddr fi_76_8 rfl rfl) ?_
                    refine JL_q (wants_none rfl) rfl (ex_load_bx 0 ti_23 rfl rfl rfl) ?_
                    refine JL_q (wants_none rfl) rfl (ex_move rfl) ?_
                    refine JL_bnd fun z73 hz74 => ?_
                    refine JL_st (wants_none rfl) rfl (st_slice_own 1 Try.underlying23 ti_2 rfl rfl rfl hz74) (fun v75 => ?_)
                    refine JL_q (wants_none rfl) rfl (ex_nilCheck rfl) ?_
                    refine JL_q (wants_none rfl) rfl (ex_fieldAddr fi_76_8 rfl rfl) ?_
                    refine JL_sk (wants_none rfl) (sk_store_bx' 0 ti_23 rfl rfl (fun w hh => (hh.cv_ow 1 rfl)) rfl rfl rfl rfl) ?_
                    refine JL_nil ?_
                    refine N_block ?_
                    refine N_then ?_
                    refine J_region ?_
                    refine JL_q (wants_none rfl) rfl (ex_move rfl) ?_
                    refine JL_q (wants_none rfl) rfl (ex_add rfl rfl) ?_
                    refine JL_q (wants_none rfl) rfl (ex_assign rfl) ?_
                    refine JL_nil ?_
                    exact N_next' v75 ⟨rfl, rfl, rfl, rfl, rfl, rfl, trivial⟩ [3, 4, 5, 1, 0, 6] rfl rfl
          · refine J_exit ?_
            refine N_then_exit ?_
            exact N_break' g49 ⟨rfl, rfl, rfl, rfl, rfl, rfl, trivial⟩ [0, 1, 2, 3, 4, 5] rfl rfl
        · refine N_then ?_
          refine J_seq ?_
          refine J_region ?_
          refine JL_q (wants_none rfl) rfl (ex_assign rfl) ?_
          refine JL_nil ?_
          refine N_then ?_
          refine J_ret ?_
          exact N_ret1 rfl (rv_tmp rfl) (fun w hh => ⟨g49, rfl, hh.sel [4, 3, 5, 0] rfl⟩)
theorem c_spec_l33Search_fill (w : World) (b0_ : Nat) (p0 : Gl33Search) (v0_0 : Value) (v0_1 : Value) (v0_8 : Value) (B_ : List Nat) (hB_ : Ctx.owns [.bx b0_ 76 [v0_0, v0_1, .int .i64 p0.size, .int .i64 p0.budget, .bool p0.all, .int .i64 p0.steps, .int .i64 p0.count, .bool p0.full, v0_8], .ow 2 v0_8 p0.tiles] = B_) (hn_ : PHanded w [.bx b0_ 76 [v0_0, v0_1, .int .i64 p0.size, .int .i64 p0.budget, .bool p0.all, .int .i64 p0.steps, .int .i64 p0.count, .bool p0.full, v0_8], .ow 2 v0_8 p0.tiles]) (hp0_0 : Rd (fun k => k ∈ B_) w v0_0 p0.list) (hp0_1 : Rd (fun k => k ∈ B_) w v0_1 p0.bottom) (r : (Bool) × (Int × Int × Bool × (List Int))) (hr : F_spec_l33Search_fill p0 = some r) :
    PtrCon Try.prog 38 [.pointer (some ⟨b0_, 0, none⟩)] w B_ (fun x_ : Value => .bool r.1) (fun x_ => [.bx b0_ 76 [v0_0, v0_1, .int .i64 p0.size, .int .i64 p0.budget, .bool p0.all, .int .i64 r.2.1, .int .i64 r.2.2.1, .bool r.2.2.2.1, x_], .ow 2 x_ r.2.2.2.2]) := by
  obtain ⟨k_, hk_⟩ := fixR_some hr
  exact c_spec_l33Search_fill_ind k_ w b0_ p0 v0_0 v0_1 v0_8 B_ hB_ hn_ hp0_0 hp0_1 r hk_

set_option maxHeartbeats 40000000 in
theorem c_spec_SolveTiling (A : Nat → Prop) (w : World) (hA : ∀ k, A k → k < w.heap.size) (v0_ : Value) (p0 : (List GTile)) (hp0 : Rd A w v0_ p0) (v1_ : Value) (p1 : (List Int)) (hp1 : Rd A w v1_ p1) (p2 : Int) (p3 : Int) (r : (List (List Int)) × Int) (hr : F_spec_SolveTiling p0 p1 p2 p3 = some r) :
    Con Try.prog 8 [v0_, v1_, .int .i64 p2, .int .i64 p3] A w (fun x_ : Value × List Nat => .tuple #[x_.1, .int .i64 r.2]) (fun x_ => [.od 23 x_.1 r.1 x_.2]) := by
  refine Con_of (v := fun (r : (List (List Int)) × Int) (x_ : Value × List Nat) => .tuple #[x_.1, .int .i64 r.2]) (fs := fun r x_ => [.od 23 x_.1 r.1 x_.2]) Try.func8 rfl Try.ntmps8 rfl (((SH.start hA).start_rd rfl hp0).start_rd rfl hp1) rfl ?_ hr
  unfold F_spec_SolveTiling
  refine J_seq ?_
  refine J_region ?_
  refine JL_q (wants_none rfl) rfl (ex_assign rfl) ?_
  refine JL_q (wants_none rfl) rfl (ex_assign rfl) ?_
  refine JL_nil ?_
  refine N_then ?_
  refine J_seq ?_
  refine J_region ?_
  refine JL_q (wants_none rfl) rfl (ex_move rfl) ?_
  refine JL_q (wants_none rfl) rfl (ex_move rfl) ?_
  refine JL_q (wants_none rfl) rfl (ex_move rfl) ?_
  refine JL_q (wants_none rfl) rfl (ex_move rfl) ?_
  refine JL_bnd fun r1 hr2 => ?_
  refine JL_call (wants_none rfl) rfl Try.call37 rfl (Ca_of0 fun w hh => c_spec_l33Ask _ w (fun _ hk => hk.elim) _ _ (hh.rd0 1 rfl) _ _ (hh.rd0 0 rfl) _ _ _ hr2) (fun _ => ?_)
  refine JL_q (wants_none rfl) rfl (ex_assign rfl) ?_
  refine JL_nil ?_
  refine N_then ?_
  refine J_seq ?_
  refine J_seq ?_
  refine J_region ?_
  refine JL_q (wants_none rfl) rfl (ex_move rfl) ?_
  refine JL_q (wants_none rfl) rfl (ex_neq rfl rfl) ?_
  refine JL_nil ?_
  refine N_then ?_
  refine J_if rfl (fun h3 => ?_) (fun h3 => ?_)
  · refine J_seq ?_
    refine J_region ?_
    refine JL_q (wants_none rfl) rfl (ex_move rfl) ?_
    refine JL_q (wants_none rfl) rfl (ex_assign rfl) ?_
    refine JL_q (wants_none rfl) rfl (ex_assign rfl) ?_
    refine JL_nil ?_
    refine N_then ?_
    refine J_ret ?_
    refine N_then_ret ?_
    refine N_ctx (fun w hh => SH.od_nil (α := (List Int)) 23 hh) ?_
    exact N_ret2 rfl (rv_tmp rfl) (rv_tmp rfl) (fun w hh => ⟨((.slice none 0 0 : Value), ([] : List Nat)), rfl, hh.sel [0] rfl⟩)
  · refine J_skip ?_
    refine N_then ?_
    refine J_seq ?_
    refine J_region ?_
    refine JL_q (wants_none rfl) rfl (ex_move rfl) ?_
    refine JL_q (wants_none rfl) rfl (ex_move rfl) ?_
    refine JL_q (wants_none rfl) rfl (ex_move rfl) ?_
    refine JL_q (wants_none rfl) rfl (ex_len_rd 0 Try.underlying23 rfl rfl) ?_
    refine JL_q (wants_none rfl) rfl (ex_move rfl) ?_
    refine JL_q (wants_none rfl) rfl (ex_mul rfl rfl) ?_
    refine JL_q (wants_none rfl) rfl (ex_move rfl) ?_
    refine JL_q (wants_none rfl) rfl (ex_build si_76 rfl (.cons fi_76_0 rfl rfl (.cons fi_76_1 rfl rfl (.cons fi_76_2 rfl rfl (.cons fi_76_3 rfl rfl .nil)))) (fun w hh => ⟨(hh.cv 1 rfl), (hh.cv 0 rfl), cv_int, cv_int, trivial⟩)) ?_
    refine JL_st (wants_none rfl) rfl (st_box' rfl (fun w hh => (cv_aggs ⟨(hh.cv 1 rfl), (hh.cv 0 rfl), cv_int, cv_int, cv_bool, cv_int, cv_int, cv_bool, cv_slice, trivial⟩))) (fun b4 => ?_)
    refine JL_q (wants_none rfl) rfl (ex_assign rfl) ?_
    refine JL_nil ?_
    refine N_then ?_
    refine J_seq ?_
    refine J_region ?_
    refine JL_q (wants_none rfl) rfl (ex_move rfl) ?_
    refine JL_bnd fun r5 hr6 => ?_
    refine JL_ctx (fun w hh => SH.ow_nil (α := Int) 2 hh) ?_
    refine JL_callT (wants_none rfl) rfl Try.call38 rfl (CaT_of [1, 0] [2, 3] rfl rfl (fun _ => rfl) fun w hh => c_spec_l33Search_fill w b4 (⟨p0, p1, (w64 ((p1.length : Int) * p2)), p3, false, 0, 0, false, ([] : (List Int))⟩ : Gl33Search) v0_ v1_ (.slice none 0 0) _ rfl (hh.handed [1, 0] rfl rfl rfl rfl) (hh.apart [1, 0] rfl (hh.rd 3 rfl)) (hh.apart [1, 0] rfl (hh.rd 2 rfl)) _ hr6) (fun x7 => ?_)
    refine JL_nil ?_
    refine N_then ?_
    refine J_seq ?_
    refine J_seq ?_
    refine J_region ?_
    refine JL_q (wants_none rfl) rfl (ex_move rfl) ?_
    refine JL_q (wants_none rfl) rfl (ex_nilCheck rfl) ?_
    refine JL_q (wants_none rfl) rfl (ex_fieldAddr fi_76_7 rfl rfl) ?_
    refine JL_q (wants_none rfl) rfl (ex_load_bx 0 ti_4 rfl rfl rfl) ?_
    refine JL_nil ?_
    refine N_then ?_
    refine J_if rfl (fun h8 => ?_) (fun h8 => ?_)
    · refine J_seq ?_
      refine J_region ?_
      refine JL_q (wants_none rfl) rfl (ex_assign rfl) ?_
      refine JL_q (wants_none rfl) rfl (ex_assign rfl) ?_
      refine JL_nil ?_
      refine N_then ?_
      refine J_ret ?_
      refine N_then_ret ?_
      refine N_ctx (fun w hh => SH.od_nil (α := (List Int)) 23 hh) ?_
      exact N_ret2 rfl (rv_tmp rfl) (rv_tmp rfl) (fun w hh => ⟨((.slice none 0 0 : Value), ([] : List Nat)), rfl, hh.sel [0] rfl⟩)
    · refine J_skip ?_
      refine N_then ?_
      refine J_seq ?_
      refine J_seq ?_
      refine J_region ?_
      refine JL_q (wants_none rfl) rfl (ex_move rfl) ?_
      refine JL_q (wants_none rfl) rfl (ex_nilCheck rfl) ?_
      refine JL_q (wants_none rfl) rfl (ex_fieldAddr fi_76_6 rfl rfl) ?_
      refine JL_q (wants_none rfl) rfl (ex_load_bx 0 ti_2 rfl rfl rfl) ?_
      refine JL_q (wants_none rfl) rfl (ex_eql rfl rfl) ?_
      refine JL_nil ?_
      refine N_then ?_
      refine J_if rfl (fun h9 => ?_) (fun h9 => ?_)
      · refine J_seq ?_
        refine J_region ?_
        refine JL_q (wants_none rfl) rfl (ex_assign rfl) ?_
        refine JL_q (wants_none rfl) rfl (ex_assign rfl) ?_
        refine JL_nil ?_
        refine N_then ?_
        refine J_ret ?_
        refine N_then_ret ?_
        refine N_ctx (fun w hh => SH.od_nil (α := (List Int)) 23 hh) ?_
        exact N_ret2 rfl (rv_tmp rfl) (rv_tmp rfl) (fun w hh => ⟨((.slice none 0 0 : Value), ([] : List Nat)), rfl, hh.sel [0] rfl⟩)
      · refine J_skip ?_
        refine N_then ?_
        refine J_seq ?_
        refine J_region ?_
        refine JL_st (wants_none rfl) rfl (st_buildSlice_od (vs := []) (B := ([] : List Nat)) ([] : List (List Int)) [] Try.underlying25 ti_23 zi_23 rfl rfl rfl rfl rfl (fun w hh => dwv_nil)) (fun b10 => ?_)
        refine JL_q (wants_none rfl) rfl (ex_assign rfl) ?_
        refine JL_nil ?_
        refine N_then ?_
        refine J_seq ?_
        refine J_seq ?_
        refine J_region ?_
        refine JL_q (wants_none rfl) rfl (ex_assign rfl) ?_
        refine JL_nil ?_
        refine N_then ?_
        refine J_loop' (S := (List (List Int)) × Int) (G := Value × List Nat) (F_spec_SolveTiling_L1 p1 r5) (fun s11 g12 => [(1, v1_), (11, .pointer (some ⟨b4, 0, none⟩)), (12, g12.1), (13, .int .i64 s11.2)]) (fun s11 g12 => [.rd v1_ p1, .rd v0_ p0, .ow 2 x7 r5.2.2.2.2, .bx b4 76 [v0_, v1_, .int .i64 (w64 ((p1.length : Int) * p2)), .int .i64 p3, .bool false, .int .i64 r5.2.1, .int .i64 r5.2.2.1, .bool r5.2.2.2.1, x7], .od 23 g12.1 s11.1 g12.2]) (([] : List (List Int)), 0) ((.slice (some ⟨b10, 0, none⟩) 0 0), ([] : List Nat)) ⟨rfl, rfl, rfl, rfl, trivial⟩ [3, 4, 2, 1, 0] rfl rfl (fun s11 g12 => ?_) (fun s11 g12 => ?_)
        · obtain ⟨g12_0, g12_1⟩ := g12
          unfold F_spec_SolveTiling_L1
          refine J_seq ?_
          refine J_seq ?_
          refine J_region ?_
          refine JL_q (wants_none rfl) rfl (ex_move rfl) ?_
          refine JL_q (wants_none rfl) rfl (ex_move rfl) ?_
          refine JL_q (wants_none rfl) rfl (ex_nilCheck rfl) ?_
          refine JL_q (wants_none rfl) rfl (ex_fieldAddr fi_76_8 rfl rfl) ?_
          refine JL_q (wants_none rfl) rfl (ex_load_bx 3 ti_23 rfl rfl rfl) ?_
          refine JL_q (wants_none rfl) rfl (ex_len_ow 2 Try.underlying23 rfl rfl) ?_
          refine JL_q (wants_none rfl) rfl (ex_lss rfl rfl) ?_
          refine JL_nil ?_
          refine N_then ?_
          refine J_if rfl (fun h13 => ?_) (fun h13 => ?_)
          · refine J_skip ?_
            refine N_then ?_
            refine J_seq ?_
            refine J_block ?_
            refine J_region ?_
            refine JL_q (wants_none rfl) rfl (ex_move rfl) ?_
            refine JL_q (wants_none rfl) rfl (ex_move rfl) ?_
            refine JL_q (wants_none rfl) rfl (ex_nilCheck rfl) ?_
            refine JL_q (wants_none rfl) rfl (ex_fieldAddr fi_76_8 rfl rfl) ?_
            refine JL_q (wants_none rfl) rfl (ex_load_bx 3 ti_23 rfl rfl rfl) ?_
            refine JL_q (wants_none rfl) rfl (ex_move rfl) ?_
            refine JL_q (wants_none rfl) rfl (ex_move rfl) ?_
            refine JL_q (wants_none rfl) rfl (ex_move rfl) ?_
            refine JL_q (wants_none rfl) rfl (ex_len_rd 0 Try.underlying23 rfl rfl) ?_
            refine JL_q (wants_none rfl) rfl (ex_add rfl rfl) ?_
            refine JL_bnd fun z14 hz15 => ?_
            refine JL_st (wants_none rfl) rfl (st_slice_bor 2 Try.underlying23 ti_2 rfl rfl rfl rfl hz15) (fun v16 => ?_)
            refine JL_bnd fun r17 hr18 => ?_
            refine JL_call (wants_none rfl) rfl Try.call39 rfl (Ca_self (fun _ => rfl) fun w hh => c_spec_l00Own _ w (fun _ hk => hk.elim) _ _ ((hh.pr 0 rfl).2 _ _ (hh.ow0 3 rfl)) _ hr18) (fun x19 => ?_)
            refine JL_ctx (fun w hh => hh.tokf 0 rfl rfl) ?_
            refine JL_st (wants_none rfl) rfl (st_buildSlice_od (vs := [x19]) (B := (((x19 : Value).ownBlock.toList ++ []) ++ [])) ([r17] : List (List Int)) [0] Try.underlying25 ti_23 zi_23 rfl rfl rfl rfl rfl (fun w hh => (dwv_cons (hh.dw 0 rfl) dwv_nil))) (fun b20 => ?_)
            refine JL_bnd fun z21 hz22 => ?_
            refine JL_st (wants_none rfl) rfl (st_append_od 8 0 Try.underlying25 ti_23 zi_23 rfl bi_23 rfl rfl rfl rfl rfl rfl hz22) (fun v23 => ?_)
            refine JL_q (wants_none rfl) rfl (ex_assign rfl) ?_
            refine JL_nil ?_
            refine N_block ?_
            refine N_then ?_
            refine J_region ?_
            refine JL_q (wants_none rfl) rfl (ex_move rfl) ?_
            refine JL_q (wants_none rfl) rfl (ex_move rfl) ?_
            refine JL_q (wants_none rfl) rfl (ex_len_rd 4 Try.underlying23 rfl rfl) ?_
            refine JL_q (wants_none rfl) rfl (ex_add rfl rfl) ?_
            refine JL_q (wants_none rfl) rfl (ex_assign rfl) ?_
            refine JL_nil ?_
            exact N_next' (v23, (g12_1 ++ (((x19 : Value).ownBlock.toList ++ []) ++ []))) ⟨rfl, rfl, rfl, rfl, trivial⟩ [4, 5, 6, 7, 8] rfl rfl
          · refine J_exit ?_
            refine N_then_exit ?_
            exact N_break' (g12_0, g12_1) ⟨rfl, rfl, rfl, rfl, trivial⟩ [0, 1, 2, 3, 4] rfl rfl
        · obtain ⟨g12_0, g12_1⟩ := g12
          refine N_then ?_
          refine J_seq ?_
          refine J_region ?_
          refine JL_q (wants_none rfl) rfl (ex_move rfl) ?_
          refine JL_q (wants_none rfl) rfl (ex_assign rfl) ?_
          refine JL_q (wants_none rfl) rfl (ex_assign rfl) ?_
          refine JL_nil ?_
          refine N_then ?_
          refine J_ret ?_
          exact N_ret2 rfl (rv_tmp rfl) (rv_tmp rfl) (fun w hh => ⟨(g12_0, g12_1), rfl, hh.sel [4] rfl⟩)

set_option maxHeartbeats 40000000 in
theorem c_impl_size_impl_Tile (A : Nat → Prop) (w : World) (hA : ∀ k, A k → k < w.heap.size) (v0_ : Value) (p0 : (List GTile)) (hp0 : Rd A w v0_ p0) (r : Int) (hr : F_impl_size_impl_Tile p0 = some r) :
    Con Try.prog 121 [v0_] A w (fun x_ : Unit => .int .i64 r) (fun x_ => []) := by
  refine Con_of (v := fun (r : Int) (x_ : Unit) => .int .i64 r) (fs := fun r x_ => []) Try.func121 rfl Try.ntmps121 rfl ((SH.start hA).start_rd rfl hp0) rfl ?_ hr
  unfold F_impl_size_impl_Tile
  refine J_seq ?_
  refine J_region ?_
  refine JL_q (wants_none rfl) rfl (ex_assign rfl) ?_
  refine JL_nil ?_
  refine N_then ?_
  refine J_seq ?_
  refine J_region ?_
  refine JL_q (wants_none rfl) rfl (ex_move rfl) ?_
  refine JL_q (wants_none rfl) rfl (ex_len_rd 0 Try.underlying28 rfl rfl) ?_
  refine JL_q (wants_none rfl) rfl (ex_assign rfl) ?_
  refine JL_nil ?_
  refine N_then ?_
  refine J_ret ?_
  exact N_ret1 rfl (rv_tmp rfl) (fun w hh => ⟨(), rfl, hh.sel [] rfl⟩)

set_option maxHeartbeats 40000000 in
theorem c_impl_colorsOk (A : Nat → Prop) (w : World) (hA : ∀ k, A k → k < w.heap.size) (v0_ : Value) (p0 : (List Int)) (hp0 : Rd A w v0_ p0) (r : Bool) (hr : F_impl_colorsOk p0 = some r) :
    Con Try.prog 122 [v0_] A w (fun x_ : Unit => .bool r) (fun x_ => []) := by
  refine Con_of (v := fun (r : Bool) (x_ : Unit) => .bool r) (fs := fun r x_ => []) Try.func122 rfl Try.ntmps122 rfl ((SH.start hA).start_rd rfl hp0) rfl ?_ hr
  unfold F_impl_colorsOk
  refine J_seq ?_
  refine J_region ?_
  refine JL_q (wants_none rfl) rfl (ex_assign rfl) ?_
  refine JL_nil ?_
  refine N_then ?_
  refine J_seq ?_
  refine J_region ?_
  refine JL_q (wants_none rfl) rfl (ex_move rfl) ?_
  refine JL_bnd fun r1 hr2 => ?_
  refine JL_call (wants_none rfl) rfl Try.call139 rfl (Ca_of0 fun w hh => c_impl_allWithin _ w (fun _ hk => hk.elim) _ _ (hh.rd0 0 rfl) _ _ _ hr2) (fun _ => ?_)
  refine JL_q (wants_none rfl) rfl (ex_assign rfl) ?_
  refine JL_nil ?_
  refine N_then ?_
  refine J_ret ?_
  exact N_ret1 rfl (rv_tmp rfl) (fun w hh => ⟨(), rfl, hh.sel [] rfl⟩)

set_option maxHeartbeats 40000000 in
theorem c_slices_Index_Simpl_Tile_impl_Tile (A : Nat → Prop) (w : World) (hA : ∀ k, A k → k < w.heap.size) (v0_ : Value) (p0 : (List GTile)) (hp0 : Rd A w v0_ p0) (v1_ : Value) (p1 : GTile) (hp1 : Rd A w v1_ p1) (r : Int) (hr : F_slices_Index_Simpl_Tile_impl_Tile p0 p1 = some r) :
    Con Try.prog 123 [v0_, v1_] A w (fun x_ : Unit => .int .i64 r) (fun x_ => []) := by
  obtain rfl := GTile.open hp1
  refine Con_of (v := fun (r : Int) (x_ : Unit) => .int .i64 r) (fs := fun r x_ => []) Try.func123 rfl Try.ntmps123 rfl ((SH.start hA).start_rd rfl hp0) rfl ?_ hr
  unfold F_slices_Index_Simpl_Tile_impl_Tile
  refine J_seq ?_
  refine J_region ?_
  refine JL_st (wants_none rfl) rfl (st_box' rfl (fun w hh => (cv_aggs ⟨cv_int, cv_int, cv_int, cv_int, trivial⟩))) (fun b1 => ?_)
  refine JL_q (wants_none rfl) rfl (ex_assign rfl) ?_
  refine JL_nil ?_
  refine N_then ?_
  refine J_seq ?_
  refine J_seq ?_
  refine J_region ?_
  refine JL_q (wants_none rfl) rfl (ex_move rfl) ?_
  refine JL_q (wants_none rfl) rfl (ex_len_rd 1 Try.underlying28 rfl rfl) ?_
  refine JL_q (wants_none rfl) rfl (ex_move rfl) ?_
  refine JL_nil ?_
  refine N_then ?_
  refine J_loop' (S := Int) (G := Unit) (F_slices_Index_Simpl_Tile_impl_Tile_L1 p0 p1) (fun s2 _ => [(0, v0_), (3, .pointer (some ⟨b1, 0, none⟩)), (7, .int .i64 (p0.length : Int)), (8, .int .i64 s2)]) (fun s2 _ => [.rd v0_ p0, .bx b1 79 [.int .i64 p1.Left, .int .i64 p1.Bottom, .int .i64 p1.Right, .int .i64 p1.Top]]) 0 () ⟨rfl, rfl, rfl, rfl, trivial⟩ [1, 0] rfl rfl (fun s2 g3 => ?_) (fun s2 g3 => ?_)
  · unfold F_slices_Index_Simpl_Tile_impl_Tile_L1
    refine J_seq ?_
    refine J_region ?_
    refine JL_q (wants_none rfl) rfl (ex_lss rfl rfl) ?_
    refine JL_nil ?_
    refine N_then ?_
    refine J_seq ?_
    refine J_if rfl (fun h4 => ?_) (fun h4 => ?_)
    · refine J_skip ?_
      refine N_then ?_
      refine J_seq ?_
      refine J_block ?_
      refine J_seq ?_
      refine J_region ?_
      refine JL_q (wants_none rfl) rfl (ex_move rfl) ?_
      refine JL_q (wants_none rfl) rfl (ex_assign rfl) ?_
      refine JL_nil ?_
      refine N_then ?_
      refine J_seq ?_
      refine J_draw [] (by kernel_rfl) ?_
      refine JP_take (i := 0) [0, 1] [] rfl (by kernel_rfl) (by kernel_rfl) (by kernel_rfl) rfl rfl (wants_none rfl) rfl (ex_load_bx_agg 1 ti_79 rfl rfl rfl rfl) ?_
      refine JP_take (i := 1) [0, 1] [] rfl (by kernel_rfl) (by kernel_rfl) (by kernel_rfl) rfl rfl (wants_none rfl) rfl (ex_move rfl) ?_
      refine JP_take (i := 2) [0, 1] [] rfl (by kernel_rfl) (by kernel_rfl) (by kernel_rfl) rfl rfl (wants_none rfl) rfl (ex_move rfl) ?_
      refine JP_bnd fun y5 hy6 => ?_
      refine JP_sq (i := 3) [] rfl (by kernel_rfl) (by kernel_rfl) (by kernel_rfl) rfl (wants_none rfl) rfl (sq_index 0 Try.underlying28 ti_79 rfl rfl rfl hy6) (fun q7 => ?_)
      refine JP_sq (i := 4) [] rfl (by kernel_rfl) (by kernel_rfl) (by kernel_rfl) rfl (wants_none rfl) rfl (sq_load_pt_o 0 (GTile.opens _) ti_79 rfl rfl) (fun _ => ?_)
      refine JP_take (i := 5) [0, 1, 2] [] rfl (by kernel_rfl) (by kernel_rfl) (by kernel_rfl) rfl rfl (wants_none rfl) rfl (ex_eql_seq_79 rfl rfl) ?_
      refine JP_go [] [] rfl rfl rfl (fun _ _ _ => ?_)
      refine JD_done (by kernel_rfl) ?_
      refine N_then ?_
      refine J_if rfl (fun h9 => ?_) (fun h9 => ?_)
      · refine J_seq ?_
        refine J_region ?_
        refine JL_q (wants_none rfl) rfl (ex_move rfl) ?_
        refine JL_q (wants_none rfl) rfl (ex_assign rfl) ?_
        refine JL_nil ?_
        refine N_then ?_
        refine J_ret ?_
        refine N_block_ret ?_
        refine N_then_ret ?_
        refine N_round_ret ?_
        refine N_then_ret ?_
        exact N_ret1 rfl (rv_tmp rfl) (fun w hh => ⟨(), rfl, hh.sel [] rfl⟩)
      · refine J_skip ?_
        refine N_block ?_
        refine N_then ?_
        refine J_region ?_
        refine JL_q (wants_none rfl) rfl (ex_add rfl rfl) ?_
        refine JL_q (wants_none rfl) rfl (ex_move rfl) ?_
        refine JL_nil ?_
        exact N_next' () ⟨rfl, rfl, rfl, rfl, trivial⟩ [1, 2] rfl rfl
    · refine J_exit ?_
      refine N_then_exit ?_
      exact N_break' () ⟨rfl, rfl, rfl, rfl, trivial⟩ [0, 1] rfl rfl
  · refine N_then ?_
    refine J_seq ?_
    refine J_region ?_
    refine JL_q (wants_none rfl) rfl (ex_assign rfl) ?_
    refine JL_nil ?_
    refine N_then ?_
    refine J_ret ?_
    exact N_ret1 rfl (rv_tmp rfl) (fun w hh => ⟨(), rfl, hh.sel [] rfl⟩)

set_option maxHeartbeats 40000000 in
theorem c_impl_ValidTiles (A : Nat → Prop) (w : World) (hA : ∀ k, A k → k < w.heap.size) (v0_ : Value) (p0 : (List GTile)) (hp0 : Rd A w v0_ p0) (r : Bool) (hr : F_impl_ValidTiles p0 = some r) :
    Con Try.prog 87 [v0_] A w (fun x_ : Unit => .bool r) (fun x_ => []) := by
  refine Con_of (v := fun (r : Bool) (x_ : Unit) => .bool r) (fs := fun r x_ => []) Try.func87 rfl Try.ntmps87 rfl ((SH.start hA).start_rd rfl hp0) rfl ?_ hr
  unfold F_impl_ValidTiles
  refine J_seq ?_
  refine J_region ?_
  refine JL_q (wants_none rfl) rfl (ex_assign rfl) ?_
  refine JL_nil ?_
  refine N_then ?_
  refine J_seq ?_
  refine J_seq ?_
  refine J_region ?_
  refine JL_q (wants_none rfl) rfl (ex_move rfl) ?_
  refine JL_bnd fun r1 hr2 => ?_
  refine JL_call (wants_none rfl) rfl Try.call121 rfl (Ca_of0 fun w hh => c_impl_size_impl_Tile _ w (fun _ hk => hk.elim) _ _ (hh.rd0 0 rfl) _ hr2) (fun _ => ?_)
  refine JL_bnd fun r3 hr4 => ?_
  refine JL_call (wants_none rfl) rfl Try.call55 rfl (Ca_of0 fun w hh => c_impl_within _ w (fun _ hk => hk.elim) _ _ _ _ hr4) (fun _ => ?_)
  refine JL_q (wants_none rfl) rfl (ex_not rfl) ?_
  refine JL_nil ?_
  refine N_then ?_
  refine J_if rfl (fun h5 => ?_) (fun h5 => ?_)
  · refine J_seq ?_
    refine J_region ?_
    refine JL_q (wants_none rfl) rfl (ex_assign rfl) ?_
    refine JL_nil ?_
    refine N_then ?_
    refine J_ret ?_
    refine N_then_ret ?_
    exact N_ret1 rfl (rv_tmp rfl) (fun w hh => ⟨(), rfl, hh.sel [] rfl⟩)
  · refine J_skip ?_
    refine N_then ?_
    refine J_seq ?_
    refine J_seq ?_
    refine J_region ?_
    refine JL_q (wants_none rfl) rfl (ex_move rfl) ?_
    refine JL_q (wants_none rfl) rfl (ex_len_rd 0 Try.underlying28 rfl rfl) ?_
    refine JL_q (wants_none rfl) rfl (ex_move rfl) ?_
    refine JL_nil ?_
    refine N_then ?_
    refine J_loop' (S := Int) (G := Unit) (F_impl_ValidTiles_L1 p0) (fun s6 _ => [(0, v0_), (9, v0_), (10, .int .i64 (p0.length : Int)), (11, .int .i64 s6)]) (fun s6 _ => [.rd v0_ p0]) 0 () ⟨rfl, rfl, rfl, rfl, trivial⟩ [0] rfl rfl (fun s6 g7 => ?_) (fun s6 g7 => ?_)
    · unfold F_impl_ValidTiles_L1
      refine J_seq ?_
      refine J_region ?_
      refine JL_q (wants_none rfl) rfl (ex_lss rfl rfl) ?_
      refine JL_nil ?_
      refine N_then ?_
      refine J_seq ?_
      refine J_if rfl (fun h8 => ?_) (fun h8 => ?_)
      · refine J_skip ?_
        refine N_then ?_
        refine J_seq ?_
        refine J_block ?_
        refine J_seq ?_
        refine J_region ?_
        refine JL_q (wants_none rfl) rfl (ex_move rfl) ?_
        refine JL_bnd fun y9 hy10 => ?_
        refine JL_st (wants_none rfl) rfl (st_index 0 Try.underlying28 ti_79 rfl rfl rfl hy10) (fun q11 => ?_)
        refine JL_st (wants_none rfl) rfl (st_load_pt_o 0 (GTile.opens _) ti_79 rfl rfl) (fun _ => ?_)
        refine JL_st (wants_none rfl) rfl (st_alloc zi_79 rfl) (fun b13 => ?_)
        refine JL_q (wants_none rfl) rfl (ex_assign rfl) ?_
        refine JL_sk (wants_none rfl) (sk_store_bx' 0 ti_79 rfl rfl (fun w hh => (cv_aggs ⟨cv_int, cv_int, cv_int, cv_int, trivial⟩)) rfl rfl rfl rfl) ?_
        refine JL_nil ?_
        refine N_then ?_
        refine J_seq ?_
        refine J_region ?_
        refine JL_q (wants_none rfl) rfl (ex_fieldAddr fi_79_0 rfl rfl) ?_
        refine JL_q (wants_none rfl) rfl (ex_load_bx 0 ti_2 rfl rfl rfl) ?_
        refine JL_q (wants_none rfl) rfl (ex_fieldAddr fi_79_1 rfl rfl) ?_
        refine JL_q (wants_none rfl) rfl (ex_load_bx 0 ti_2 rfl rfl rfl) ?_
        refine JL_q (wants_none rfl) rfl (ex_fieldAddr fi_79_2 rfl rfl) ?_
        refine JL_q (wants_none rfl) rfl (ex_load_bx 0 ti_2 rfl rfl rfl) ?_
        refine JL_q (wants_none rfl) rfl (ex_fieldAddr fi_79_3 rfl rfl) ?_
        refine JL_q (wants_none rfl) rfl (ex_load_bx 0 ti_2 rfl rfl rfl) ?_
        refine JL_st (wants_none rfl) rfl (st_buildSlice (vs := [.int .i64 y9.Left, .int .i64 y9.Bottom, .int .i64 y9.Right, .int .i64 y9.Top]) ([y9.Left, y9.Bottom, y9.Right, y9.Top] : List Int) Try.underlying23 ti_2 zi_2 rfl rfl rfl (fun w hh => ⟨(Rd.mk_int _ _ _), (Rd.mk_int _ _ _), (Rd.mk_int _ _ _), (Rd.mk_int _ _ _), trivial⟩)) (fun b14 => ?_)
        refine JL_bnd fun r15 hr16 => ?_
        refine JL_call (wants_none rfl) rfl Try.call122 rfl (Ca_of0 fun w hh => c_impl_colorsOk _ w (fun _ hk => hk.elim) _ _ (hh.ow0 0 rfl) _ hr16) (fun _ => ?_)
        refine JL_q (wants_none rfl) rfl (ex_not rfl) ?_
        refine JL_q (wants_none rfl) rfl (ex_move rfl) ?_
        refine JL_cond (fun h17 => ?_) (fun h17 => ?_)
        · refine JL_passed rfl rfl rfl h17 ?_
          refine JL_passed rfl rfl rfl h17 ?_
          refine JL_passed rfl rfl rfl h17 ?_
          refine JL_passed rfl rfl rfl h17 ?_
          refine JL_passed rfl rfl rfl h17 ?_
          refine JL_q (wants_none rfl) rfl (ex_pick_true rfl h17 rfl) ?_
          refine JL_nil ?_
          refine N_then ?_
          refine J_if_true rfl rfl ?_
          refine J_seq ?_
          refine J_region ?_
          refine JL_q (wants_none rfl) rfl (ex_assign rfl) ?_
          refine JL_nil ?_
          refine N_then ?_
          refine J_ret ?_
          refine N_block_ret ?_
          refine N_then_ret ?_
          refine N_round_ret ?_
          refine N_then_ret ?_
          exact N_ret1 rfl (rv_tmp rfl) (fun w hh => ⟨(), rfl, hh.sel [] rfl⟩)
        · refine JL_q (wants_some rfl rfl rfl h17) rfl (ex_move rfl) ?_
          refine JL_q (wants_some rfl rfl rfl h17) rfl (ex_load_bx_agg 1 ti_79 rfl rfl rfl rfl) ?_
          refine JL_bnd fun r18 hr19 => ?_
          refine JL_call (wants_some rfl rfl rfl h17) rfl Try.call123 rfl (Ca_of0 fun w hh => c_slices_Index_Simpl_Tile_impl_Tile _ w (fun _ hk => hk.elim) _ _ (hh.rd0 3 rfl) _ _ (GTile.rdmk (Rd.mk_int _ _ _) (Rd.mk_int _ _ _) (Rd.mk_int _ _ _) (Rd.mk_int _ _ _)) _ hr19) (fun _ => ?_)
          refine JL_q (wants_some rfl rfl rfl h17) rfl (ex_move rfl) ?_
          refine JL_q (wants_some rfl rfl rfl h17) rfl (ex_neq rfl rfl) ?_
          refine JL_q (wants_none rfl) rfl (ex_pick_false rfl h17 rfl) ?_
          refine JL_nil ?_
          refine N_then ?_
          refine J_if rfl (fun h20 => ?_) (fun h20 => ?_)
          · refine J_seq ?_
            refine J_region ?_
            refine JL_q (wants_none rfl) rfl (ex_assign rfl) ?_
            refine JL_nil ?_
            refine N_then ?_
            refine J_ret ?_
            refine N_block_ret ?_
            refine N_then_ret ?_
            refine N_round_ret ?_
            refine N_then_ret ?_
            exact N_ret1 rfl (rv_tmp rfl) (fun w hh => ⟨(), rfl, hh.sel [] rfl⟩)
          · refine J_skip ?_
            refine N_block ?_
            refine N_then ?_
            refine J_region ?_
            refine JL_q (wants_none rfl) rfl (ex_add rfl rfl) ?_
            refine JL_q (wants_none rfl) rfl (ex_move rfl) ?_
            refine JL_nil ?_
            exact N_next' () ⟨rfl, rfl, rfl, rfl, trivial⟩ [3] rfl rfl
      · refine J_exit ?_
        refine N_then_exit ?_
        exact N_break' () ⟨rfl, rfl, rfl, rfl, trivial⟩ [0] rfl rfl
    · refine N_then ?_
      refine J_seq ?_
      refine J_region ?_
      refine JL_q (wants_none rfl) rfl (ex_assign rfl) ?_
      refine JL_nil ?_
      refine N_then ?_
      refine J_ret ?_
      exact N_ret1 rfl (rv_tmp rfl) (fun w hh => ⟨(), rfl, hh.sel [] rfl⟩)

set_option maxHeartbeats 40000000 in
theorem c_impl_isFrame (A : Nat → Prop) (w : World) (hA : ∀ k, A k → k < w.heap.size) (v0_ : Value) (p0 : (List Int)) (hp0 : Rd A w v0_ p0) (r : Bool) (hr : F_impl_isFrame p0 = some r) :
    Con Try.prog 88 [v0_] A w (fun x_ : Unit => .bool r) (fun x_ => []) := by
  refine Con_of (v := fun (r : Bool) (x_ : Unit) => .bool r) (fs := fun r x_ => []) Try.func88 rfl Try.ntmps88 rfl ((SH.start hA).start_rd rfl hp0) rfl ?_ hr
  unfold F_impl_isFrame
  refine J_seq ?_
  refine J_region ?_
  refine JL_q (wants_none rfl) rfl (ex_assign rfl) ?_
  refine JL_nil ?_
  refine N_then ?_
  refine J_seq ?_
  refine J_region ?_
  refine JL_q (wants_none rfl) rfl (ex_move rfl) ?_
  refine JL_bnd fun r1 hr2 => ?_
  refine JL_call (wants_none rfl) rfl Try.call89 rfl (Ca_of0 fun w hh => c_impl_size_int64 _ w (fun _ hk => hk.elim) _ _ (hh.rd0 0 rfl) _ hr2) (fun _ => ?_)
  refine JL_bnd fun r3 hr4 => ?_
  refine JL_call (wants_none rfl) rfl Try.call55 rfl (Ca_of0 fun w hh => c_impl_within _ w (fun _ hk => hk.elim) _ _ _ _ hr4) (fun _ => ?_)
  refine JL_q (wants_none rfl) rfl (ex_move rfl) ?_
  refine JL_cond (fun h5 => ?_) (fun h5 => ?_)
  · refine JL_q (wants_some rfl rfl rfl h5) rfl (ex_move rfl) ?_
    refine JL_bnd fun r6 hr7 => ?_
    refine JL_call (wants_some rfl rfl rfl h5) rfl Try.call122 rfl (Ca_of0 fun w hh => c_impl_colorsOk _ w (fun _ hk => hk.elim) _ _ (hh.rd0 0 rfl) _ hr7) (fun _ => ?_)
    refine JL_q (wants_none rfl) rfl (ex_pick_true rfl h5 rfl) ?_
    refine JL_q (wants_none rfl) rfl (ex_assign rfl) ?_
    refine JL_nil ?_
    refine N_then ?_
    refine J_ret ?_
    exact N_ret1 rfl (rv_tmp rfl) (fun w hh => ⟨(), rfl, hh.sel [] rfl⟩)
  · refine JL_passed rfl rfl rfl h5 ?_
    refine JL_passed rfl rfl rfl h5 ?_
    refine JL_q (wants_none rfl) rfl (ex_pick_false rfl h5 rfl) ?_
    refine JL_q (wants_none rfl) rfl (ex_assign rfl) ?_
    refine JL_nil ?_
    refine N_then ?_
    refine J_ret ?_
    exact N_ret1 rfl (rv_tmp rfl) (fun w hh => ⟨(), rfl, hh.sel [] rfl⟩)

set_option maxHeartbeats 40000000 in
theorem c_impl_fitsAt (A : Nat → Prop) (w : World) (hA : ∀ k, A k → k < w.heap.size) (v0_ : Value) (p0 : GTile) (hp0 : Rd A w v0_ p0) (p1 : Int) (p2 : Int) (p3 : Bool) (r : Bool) (hr : F_impl_fitsAt p0 p1 p2 p3 = some r) :
    Con Try.prog 90 [v0_, .int .i64 p1, .int .i64 p2, .bool p3] A w (fun x_ : Unit => .bool r) (fun x_ => []) := by
  obtain rfl := GTile.open hp0
  refine Con_of (v := fun (r : Bool) (x_ : Unit) => .bool r) (fs := fun r x_ => []) Try.func90 rfl Try.ntmps90 rfl (SH.start hA) rfl ?_ hr
  unfold F_impl_fitsAt
  refine J_seq ?_
  refine J_region ?_
  refine JL_st (wants_none rfl) rfl (st_box' rfl (fun w hh => (cv_aggs ⟨cv_int, cv_int, cv_int, cv_int, trivial⟩))) (fun b1 => ?_)
  refine JL_q (wants_none rfl) rfl (ex_assign rfl) ?_
  refine JL_nil ?_
  refine N_then ?_
  refine J_seq ?_
  refine J_region ?_
  refine JL_q (wants_none rfl) rfl (ex_fieldAddr fi_79_0 rfl rfl) ?_
  refine JL_q (wants_none rfl) rfl (ex_load_bx 0 ti_2 rfl rfl rfl) ?_
  refine JL_q (wants_none rfl) rfl (ex_move rfl) ?_
  refine JL_q (wants_none rfl) rfl (ex_eql rfl rfl) ?_
  refine JL_q (wants_none rfl) rfl (ex_move rfl) ?_
  refine JL_cond (fun h2 => ?_) (fun h2 => ?_)
  · refine JL_q (wants_some rfl rfl rfl h2) rfl (ex_fieldAddr fi_79_1 rfl rfl) ?_
    refine JL_q (wants_some rfl rfl rfl h2) rfl (ex_load_bx 0 ti_2 rfl rfl rfl) ?_
    refine JL_q (wants_some rfl rfl rfl h2) rfl (ex_move rfl) ?_
    refine JL_q (wants_some rfl rfl rfl h2) rfl (ex_eql rfl rfl) ?_
    refine JL_q (wants_none rfl) rfl (ex_pick_true rfl h2 rfl) ?_
    refine JL_q (wants_none rfl) rfl (ex_move rfl) ?_
    refine JL_cond (fun h3 => ?_) (fun h3 => ?_)
    · refine JL_q (wants_some rfl rfl rfl h3) rfl (ex_move rfl) ?_
      refine JL_q (wants_some rfl rfl rfl h3) rfl (ex_not rfl) ?_
      refine JL_q (wants_some rfl rfl rfl h3) rfl (ex_move rfl) ?_
      refine JL_cond (fun h4 => ?_) (fun h4 => ?_)
      · refine JL_passed rfl rfl rfl h4 ?_
        refine JL_passed rfl rfl rfl h4 ?_
        refine JL_passed rfl rfl rfl h4 ?_
        refine JL_q (wants_some rfl rfl rfl h3) rfl (ex_pick_true rfl h4 rfl) ?_
        refine JL_q (wants_none rfl) rfl (ex_pick_true rfl h3 rfl) ?_
        refine JL_q (wants_none rfl) rfl (ex_assign rfl) ?_
        refine JL_nil ?_
        refine N_then ?_
        refine J_ret ?_
        exact N_ret1 rfl (rv_tmp rfl) (fun w hh => ⟨(), rfl, hh.sel [] rfl⟩)
      · refine JL_q (wants_some rfl rfl rfl h4) rfl (ex_fieldAddr fi_79_2 rfl rfl) ?_
        refine JL_q (wants_some rfl rfl rfl h4) rfl (ex_load_bx 0 ti_2 rfl rfl rfl) ?_
        refine JL_q (wants_some rfl rfl rfl h4) rfl (ex_eql rfl rfl) ?_
        refine JL_q (wants_some rfl rfl rfl h3) rfl (ex_pick_false rfl h4 rfl) ?_
        refine JL_q (wants_none rfl) rfl (ex_pick_true rfl h3 rfl) ?_
        refine JL_q (wants_none rfl) rfl (ex_assign rfl) ?_
        refine JL_nil ?_
        refine N_then ?_
        refine J_ret ?_
        exact N_ret1 rfl (rv_tmp rfl) (fun w hh => ⟨(), rfl, hh.sel [] rfl⟩)
    · refine JL_passed rfl rfl rfl h3 ?_
      refine JL_passed rfl rfl rfl h3 ?_
      refine JL_passed rfl rfl rfl h3 ?_
      refine JL_passed_undef rfl rfl rfl ?_
      refine JL_passed_undef rfl rfl rfl ?_
      refine JL_passed_undef rfl rfl rfl ?_
      refine JL_passed rfl rfl rfl h3 ?_
      refine JL_q (wants_none rfl) rfl (ex_pick_false rfl h3 rfl) ?_
      refine JL_q (wants_none rfl) rfl (ex_assign rfl) ?_
      refine JL_nil ?_
      refine N_then ?_
      refine J_ret ?_
      exact N_ret1 rfl (rv_tmp rfl) (fun w hh => ⟨(), rfl, hh.sel [] rfl⟩)
  · refine JL_passed rfl rfl rfl h2 ?_
    refine JL_passed rfl rfl rfl h2 ?_
    refine JL_passed rfl rfl rfl h2 ?_
    refine JL_passed rfl rfl rfl h2 ?_
    refine JL_q (wants_none rfl) rfl (ex_pick_false rfl h2 rfl) ?_
    refine JL_q (wants_none rfl) rfl (ex_move rfl) ?_
    refine JL_passed rfl rfl rfl rfl ?_
    refine JL_passed rfl rfl rfl rfl ?_
    refine JL_passed rfl rfl rfl rfl ?_
    refine JL_passed_undef rfl rfl rfl ?_
    refine JL_passed_undef rfl rfl rfl ?_
    refine JL_passed_undef rfl rfl rfl ?_
    refine JL_passed rfl rfl rfl rfl ?_
    refine JL_q (wants_none rfl) rfl (ex_pick_false rfl rfl rfl) ?_
    refine JL_q (wants_none rfl) rfl (ex_assign rfl) ?_
    refine JL_nil ?_
    refine N_then ?_
    refine J_ret ?_
    exact N_ret1 rfl (rv_tmp rfl) (fun w hh => ⟨(), rfl, hh.sel [] rfl⟩)

set_option maxHeartbeats 40000000 in
theorem c_slices_Chunk_Sint64_int64_1 (A : Nat → Prop) (w : World) (hA : ∀ k, A k → k < w.heap.size) (v0_ : Value) (p0 : ((List Int) → Option Bool)) (hp0 : Clo Try.prog w v0_ p0 .bool) (v1_ : Value) (p1 : (List Int)) (hp1 : RdA A w.heap.size w v1_ p1) (v2_ : Value) (p2 : Int) (hp2 : RdA A w.heap.size w v2_ p2) (r : Unit) (hr : F_slices_Chunk_Sint64_int64_1 p0 p1 p2 = some r) :
    Con Try.prog 91 [v0_, v1_, v2_] A w (fun x_ : Unit => .tuple #[]) (fun x_ => []) := by
  refine Con_of (v := fun (r : Unit) (x_ : Unit) => .tuple #[]) (fs := fun r x_ => []) Try.func91 rfl Try.ntmps91 rfl (((SH.start hA).start_pa' rfl hp1).start_pa' rfl hp2) rfl ?_ hr
  unfold F_slices_Chunk_Sint64_int64_1
  refine J_seq ?_
  refine J_region ?_
  refine JL_q (wants_none rfl) rfl (ex_assign rfl) ?_
  refine JL_nil ?_
  refine N_then ?_
  refine J_loop' (S := Int) (G := Unit) (F_slices_Chunk_Sint64_int64_1_L1 p0 p1 p2) (fun s1 _ => [(0, v0_), (1, v1_), (2, v2_), (4, .int .i64 s1)]) (fun s1 _ => [.pa v1_ p1, .pa v2_ p2]) 0 () ⟨rfl, rfl, rfl, rfl, trivial⟩ [1, 0] rfl rfl (fun s1 g2 => ?_) (fun s1 g2 => ?_)
  · unfold F_slices_Chunk_Sint64_int64_1_L1
    refine J_seq ?_
    refine J_seq ?_
    refine J_region ?_
    refine JL_q (wants_none rfl) rfl (ex_move rfl) ?_
    refine JL_st (wants_none rfl) rfl (st_load_pa_o 0 (opens_sl _) ti_23 rfl rfl) (fun v3 => ?_)
    refine JL_q (wants_none rfl) rfl (ex_len_rd 0 Try.underlying23 rfl rfl) ?_
    refine JL_q (wants_none rfl) rfl (ex_lss rfl rfl) ?_
    refine JL_nil ?_
    refine N_then ?_
    refine J_if rfl (fun h4 => ?_) (fun h4 => ?_)
    · refine J_skip ?_
      refine N_then ?_
      refine J_seq ?_
      refine J_block ?_
      refine J_seq ?_
      refine J_draw [] (by kernel_rfl) ?_
      refine JP_sq (i := 0) [] rfl (by kernel_rfl) (by kernel_rfl) (by kernel_rfl) rfl (wants_none rfl) rfl (sq_load_pa_o 2 (opens_int _) ti_3 rfl rfl) (fun _ => ?_)
      refine JP_sq (i := 1) [] rfl (by kernel_rfl) (by kernel_rfl) (by kernel_rfl) rfl (wants_none rfl) rfl (sq_load_pa_o 1 (opens_sl _) ti_23 rfl rfl) (fun v6 => ?_)
      refine JP_take (i := 2) [0, 1, 2, 3] [] rfl (by kernel_rfl) (by kernel_rfl) (by kernel_rfl) rfl rfl (wants_none rfl) rfl (ex_move rfl) ?_
      refine JP_bnd fun z7 hz8 => ?_
      refine JP_sq (i := 3) [] rfl (by kernel_rfl) (by kernel_rfl) (by kernel_rfl) rfl (wants_none rfl) rfl (sq_slice 0 Try.underlying23 ti_2 rfl rfl rfl rfl hz8) (fun v9 => ?_)
      refine JP_take (i := 4) [0, 1, 2, 3, 4] [] rfl (by kernel_rfl) (by kernel_rfl) (by kernel_rfl) rfl rfl (wants_none rfl) rfl (ex_len_rd 0 Try.underlying23 rfl rfl) ?_
      refine JP_go [0, 1, 2, 3, 4] [] rfl rfl rfl (fun w11 h1_12 hp10 => ?_)
      refine JD_one (i := 5) (by kernel_rfl) ?_
      refine JO_q rfl (wants_none rfl) rfl (ex_min rfl rfl) ?_
      refine JD_take (i := 6) hp10 rfl (by kernel_rfl) (by kernel_rfl) (by kernel_rfl) (wants_none rfl) rfl (ex_assign rfl) ?_
      refine JD_done (by kernel_rfl) ?_
      refine N_then ?_
      refine J_seq ?_
      refine J_region ?_
      refine JL_q (wants_none rfl) rfl (ex_move rfl) ?_
      refine JL_st (wants_none rfl) rfl (st_load_pa_o 3 (opens_sl _) ti_23 rfl rfl) (fun v13 => ?_)
      refine JL_q (wants_none rfl) rfl (ex_move rfl) ?_
      refine JL_q (wants_none rfl) rfl (ex_move rfl) ?_
      refine JL_q (wants_none rfl) rfl (ex_move rfl) ?_
      refine JL_q (wants_none rfl) rfl (ex_add rfl rfl) ?_
      refine JL_q (wants_none rfl) rfl (ex_move rfl) ?_
      refine JL_q (wants_none rfl) rfl (ex_move rfl) ?_
      refine JL_q (wants_none rfl) rfl (ex_add rfl rfl) ?_
      refine JL_bnd fun z14 hz15 => ?_
      refine JL_st (wants_none rfl) rfl (st_slice3 0 Try.underlying23 ti_2 rfl rfl rfl rfl rfl hz15) (fun v16 => ?_)
      refine JL_bnd fun r17 hr18 => ?_
      refine JL_clo (wants_none rfl) rfl hp0 rfl rfl (fun w hh => (hh.rd0 0 rfl)) hr18 ?_
      refine JL_q (wants_none rfl) rfl (ex_not rfl) ?_
      refine JL_nil ?_
      refine N_then ?_
      refine J_if rfl (fun h19 => ?_) (fun h19 => ?_)
      · refine J_ret ?_
        refine N_block_ret ?_
        refine N_then_ret ?_
        refine N_round_ret ?_
        exact N_ret0 (.inl rfl) rfl  (fun w hh => ⟨(), rfl, hh.sel [] rfl⟩)
      · refine J_skip ?_
        refine N_block ?_
        refine N_then ?_
        refine J_region ?_
        refine JL_q (wants_none rfl) rfl (ex_move rfl) ?_
        refine JL_st (wants_none rfl) rfl (st_load_pa_o 6 (opens_int _) ti_3 rfl rfl) (fun _ => ?_)
        refine JL_q (wants_none rfl) rfl (ex_add rfl rfl) ?_
        refine JL_q (wants_none rfl) rfl (ex_assign rfl) ?_
        refine JL_nil ?_
        exact N_next' () ⟨rfl, rfl, rfl, rfl, trivial⟩ [5, 6] rfl rfl
    · refine J_exit ?_
      refine N_then_exit ?_
      exact N_break' () ⟨rfl, rfl, rfl, rfl, trivial⟩ [1, 2] rfl rfl
  · exact N_ret0 (.inr rfl) rfl  (fun w hh => ⟨(), rfl, hh.sel [] rfl⟩)

set_option maxHeartbeats 40000000 in
theorem c_impl_tiler_fill_impl_SolveTiling_1_ind : ∀ (k_ : Nat) (w : World) (b0_ : Nat) (p0 : Gtiler) (v0_0 : Value) (v0_1 : Value) (v0_2 : Value) (b3_ : Nat) (p3 : Bool) (B_ : List Nat) (hB_ : Ctx.owns [.bx b0_ 91 [v0_0, v0_1, v0_2, .int .i64 p0.left], .ow 2 v0_2 p0.places, .bx b3_ 4 [.bool p3]] = B_) (hn_ : PHanded w [.bx b0_ 91 [v0_0, v0_1, v0_2, .int .i64 p0.left], .ow 2 v0_2 p0.places, .bx b3_ 4 [.bool p3]]) (hp0_0 : Rd (fun k => k ∈ B_) w v0_0 p0.list) (hp0_1 : Rd (fun k => k ∈ B_) w v0_1 p0.bottom) (p1 : Int) (r : (Bool × Bool) × ((List Int) × Int × Bool)) (hr : fixN (fun (rec_ : (Gtiler × Int × Bool) → Option ((Bool × Bool) × ((List Int) × Int × Bool))) (a_ : Gtiler × Int × Bool) => F_impl_tiler_fill_impl_SolveTiling_1_step (fun p0 p1 p3 => rec_ (p0, p1, p3)) a_.1 a_.2.1 a_.2.2) k_ (p0, p1, p3) = some r),
    PtrCon Try.prog 42 [.pointer (some ⟨b0_, 0, none⟩), .int .i64 p1, .func (.func 43) #[] #[.pointer (some ⟨b3_, 0, none⟩)]] w B_ (fun x_ : Value => .tuple #[.bool r.1.1, .bool r.1.2]) (fun x_ => [.bx b0_ 91 [v0_0, v0_1, x_, .int .i64 r.2.2.1], .ow 2 x_ r.2.1, .bx b3_ 4 [.bool r.2.2.2]]) := by
  intro k_
  induction k_ with
  | zero => intro w b0_ p0 v0_0 v0_1 v0_2 b3_ p3 B_ hB_ hn_ hp0_0 hp0_1 p1 r hr; cases hr
  | succ k_ ih_ =>
  intro w b0_ p0 v0_0 v0_1 v0_2 b3_ p3 B_ hB_ hn_ hp0_0 hp0_1 p1 r hr
  replace hr : F_impl_tiler_fill_impl_SolveTiling_1_step (fun p0 p1 p3 => fixN (fun (rec_ : (Gtiler × Int × Bool) → Option ((Bool × Bool) × ((List Int) × Int × Bool))) (a_ : Gtiler × Int × Bool) => F_impl_tiler_fill_impl_SolveTiling_1_step (fun p0 p1 p3 => rec_ (p0, p1, p3)) a_.1 a_.2.1 a_.2.2) k_ (p0, p1, p3)) p0 p1 p3 = some r := hr
  refine PtrCon_of (v := fun (r : (Bool × Bool) × ((List Int) × Int × Bool)) (x_ : Value) => .tuple #[.bool r.1.1, .bool r.1.2]) (fs := fun r x_ => [.bx b0_ 91 [v0_0, v0_1, x_, .int .i64 r.2.2.1], .ow 2 x_ r.2.1, .bx b3_ 4 [.bool r.2.2.2]]) Try.func42 rfl Try.ntmps42 rfl (show SH nowhere (bare w) w [.rd v0_1 p0.bottom, .rd v0_0 p0.list, .bx b0_ 91 [v0_0, v0_1, v0_2, .int .i64 p0.left], .ow 2 v0_2 p0.places, .bx b3_ 4 [.bool p3], .tkn (.int .i64 0) (0 : Int) (restL w B_), rest w B_] from (((SH.begin hB_ hn_).cons_apart hB_ hp0_0).cons_apart hB_ hp0_1)) rfl ?_ hr
  unfold F_impl_tiler_fill_impl_SolveTiling_1_step
  refine J_seq ?_
  refine J_region ?_
  refine JL_q (wants_none rfl) rfl (ex_assign rfl) ?_
  refine JL_q (wants_none rfl) rfl (ex_assign rfl) ?_
  refine JL_nil ?_
  refine N_then ?_
  refine J_seq ?_
  refine J_seq ?_
  refine J_region ?_
  refine JL_q (wants_none rfl) rfl (ex_move rfl) ?_
  refine JL_q (wants_none rfl) rfl (ex_move rfl) ?_
  refine JL_q (wants_none rfl) rfl (ex_nilCheck rfl) ?_
  refine JL_q (wants_none rfl) rfl (ex_fieldAddr fi_91_2 rfl rfl) ?_
  refine JL_q (wants_none rfl) rfl (ex_load_bx 2 ti_23 rfl rfl rfl) ?_
  refine JL_q (wants_none rfl) rfl (ex_len_ow 3 Try.underlying23 rfl rfl) ?_
  refine JL_q (wants_none rfl) rfl (ex_eql rfl rfl) ?_
  refine JL_nil ?_
  refine N_then ?_
  refine J_if rfl (fun h1 => ?_) (fun h1 => ?_)
  · refine J_seq ?_
    refine J_region ?_
    refine JL_q (wants_none rfl) rfl (ex_move rfl) ?_
    refine JL_inlinev (args := []) (caps := [.pointer (some ⟨b3_, 0, none⟩)]) (wants_none rfl) rfl Try.call43 rfl rfl Try.func43 rfl Try.ntmps43 rfl rfl (fun K_ hK2 => ?_)
    refine J_seq ?_
    refine J_region ?_
    refine JL_q (wants_none rfl) rfl (ex_assign rfl) ?_
    refine JL_nil ?_
    refine N_then ?_
    refine J_seq ?_
    refine J_region ?_
    refine JL_sk (wants_none rfl) (sk_store_bx' 4 ti_4 rfl rfl (fun w hh => cv_bool) rfl rfl rfl rfl) ?_
    refine JL_nil ?_
    refine N_then ?_
    refine J_seq ?_
    refine J_region ?_
    refine JL_q (wants_none rfl) rfl (ex_assign rfl) ?_
    refine JL_nil ?_
    refine N_then ?_
    refine J_ret ?_
    refine N_inl1 hK2 rfl (rv_tmp rfl) ?_
    refine JL_q (wants_none rfl) rfl (ex_assign rfl) ?_
    refine JL_q (wants_none rfl) rfl (ex_assign rfl) ?_
    refine JL_nil ?_
    refine N_then ?_
    refine J_ret ?_
    refine N_then_ret ?_
    exact N_ret2 rfl (rv_tmp rfl) (rv_tmp rfl) (fun w hh => ⟨v0_2, rfl, hh.sel [2, 3, 4, 5, 6] rfl⟩)
  · refine J_skip ?_
    refine N_then ?_
    refine J_seq ?_
    refine J_region ?_
    refine JL_q (wants_none rfl) rfl (ex_move rfl) ?_
    refine JL_q (wants_none rfl) rfl (ex_nilCheck rfl) ?_
    refine JL_q (wants_none rfl) rfl (ex_fieldAddr fi_91_1 rfl rfl) ?_
    refine JL_q (wants_none rfl) rfl (ex_load_bx 2 ti_23 rfl rfl rfl) ?_
    refine JL_q (wants_none rfl) rfl (ex_len_rd 0 Try.underlying23 rfl rfl) ?_
    refine JL_q (wants_none rfl) rfl (ex_assign rfl) ?_
    refine JL_nil ?_
    refine N_then ?_
    refine J_seq ?_
    refine J_draw [] (by kernel_rfl) ?_
    refine JP_take (i := 0) [0, 1, 2, 3, 4, 5, 6] [] rfl (by kernel_rfl) (by kernel_rfl) (by kernel_rfl) rfl rfl (wants_none rfl) rfl (ex_move rfl) ?_
    refine JP_take (i := 1) [0, 1, 2, 3, 4, 5, 6] [] rfl (by kernel_rfl) (by kernel_rfl) (by kernel_rfl) rfl rfl (wants_none rfl) rfl (ex_nilCheck rfl) ?_
    refine JP_take (i := 2) [0, 1, 2, 3, 4, 5, 6] [] rfl (by kernel_rfl) (by kernel_rfl) (by kernel_rfl) rfl rfl (wants_none rfl) rfl (ex_fieldAddr fi_91_1 rfl rfl) ?_
    refine JP_take (i := 3) [0, 1, 2, 3, 4, 5, 6] [] rfl (by kernel_rfl) (by kernel_rfl) (by kernel_rfl) rfl rfl (wants_none rfl) rfl (ex_load_bx 2 ti_23 rfl rfl rfl) ?_
    refine JP_take (i := 4) [0, 1, 2, 3, 4, 5, 6] [] rfl (by kernel_rfl) (by kernel_rfl) (by kernel_rfl) rfl rfl (wants_none rfl) rfl (ex_move rfl) ?_
    refine JP_take (i := 5) [0, 1, 2, 3, 4, 5, 6] [] rfl (by kernel_rfl) (by kernel_rfl) (by kernel_rfl) rfl rfl (wants_none rfl) rfl (ex_move rfl) ?_
    refine JP_bnd fun u3 hu4 => ?_
    refine JP_take (i := 6) [0, 1, 2, 3, 4, 5, 6] [] rfl (by kernel_rfl) (by kernel_rfl) (by kernel_rfl) rfl rfl (wants_none rfl) rfl (ex_rem rfl rfl (nz_ne hu4)) ?_
    refine JP_bnd fun y5 hy6 => ?_
    refine JP_sq (i := 7) [] rfl (by kernel_rfl) (by kernel_rfl) (by kernel_rfl) rfl (wants_none rfl) rfl (sq_index 0 Try.underlying23 ti_2 rfl rfl rfl hy6) (fun q7 => ?_)
    refine JP_sq (i := 8) [] rfl (by kernel_rfl) (by kernel_rfl) (by kernel_rfl) rfl (wants_none rfl) rfl (sq_load_pt_o 0 (opens_int _) ti_2 rfl rfl) (fun _ => ?_)
    refine JP_take (i := 9) [0, 1, 2, 3, 4, 5, 6, 7] [] rfl (by kernel_rfl) (by kernel_rfl) (by kernel_rfl) rfl rfl (wants_none rfl) rfl (ex_assign rfl) ?_
    refine JP_take (i := 10) [0, 1, 2, 3, 4, 5, 6, 7] [] rfl (by kernel_rfl) (by kernel_rfl) (by kernel_rfl) rfl rfl (wants_none rfl) rfl (ex_assign rfl) ?_
    refine JP_go [] [] rfl rfl rfl (fun _ _ _ => ?_)
    refine JD_done (by kernel_rfl) ?_
    refine N_then ?_
    refine J_seq ?_
    refine J_cut' (S' := Int) (G' := Unit) (fun s9 _ => [(0, .pointer (some ⟨b0_, 0, none⟩)), (1, .int .i64 p1), (2, .func (.func 43) #[] #[.pointer (some ⟨b3_, 0, none⟩)]), (8, .int .i64 (p0.bottom.length : Int)), (9, .int .i64 s9), (10, .int .i64 y5)]) (fun s9 _ => [rest w B_, .rd v0_0 p0.list, .rd v0_1 p0.bottom, .ow 2 v0_2 p0.places, .bx b0_ 91 [v0_0, v0_1, v0_2, .int .i64 p0.left], .bx b3_ 4 [.bool p3], .tkn (.int .i64 0) (0 : Int) (restL w B_)]) ?_ (fun s9 g10 => ?_)
    · refine J_seq ?_
      refine J_region ?_
      refine JL_q (wants_none rfl) rfl (ex_move rfl) ?_
      refine JL_q (wants_none rfl) rfl (ex_move rfl) ?_
      refine JL_bnd fun u11 hu12 => ?_
      refine JL_q (wants_none rfl) rfl (ex_rem rfl rfl (nz_ne hu12)) ?_
      refine JL_q (wants_none rfl) rfl (ex_gtr rfl rfl) ?_
      refine JL_nil ?_
      refine N_then ?_
      refine J_if rfl (fun h13 => ?_) (fun h13 => ?_)
      · refine J_draw [4] (by kernel_rfl) ?_
        refine JP_take (i := 0) [0, 1, 2, 3, 5, 6, 7] [4] rfl (by kernel_rfl) (by kernel_rfl) (by kernel_rfl) rfl rfl (wants_none rfl) rfl (ex_move rfl) ?_
        refine JP_take (i := 1) [0, 1, 2, 3, 5, 6, 7] [4] rfl (by kernel_rfl) (by kernel_rfl) (by kernel_rfl) rfl rfl (wants_none rfl) rfl (ex_nilCheck rfl) ?_
        refine JP_take (i := 2) [0, 1, 2, 3, 5, 6, 7] [4] rfl (by kernel_rfl) (by kernel_rfl) (by kernel_rfl) rfl rfl (wants_none rfl) rfl (ex_fieldAddr fi_91_0 rfl rfl) ?_
        refine JP_take (i := 3) [0, 1, 2, 3, 5, 6, 7] [4] rfl (by kernel_rfl) (by kernel_rfl) (by kernel_rfl) rfl rfl (wants_none rfl) rfl (ex_load_bx 3 ti_28 rfl rfl rfl) ?_
        refine JP_take (i := 4) [0, 1, 2, 3, 5, 6, 7] [4] rfl (by kernel_rfl) (by kernel_rfl) (by kernel_rfl) rfl rfl (wants_none rfl) rfl (ex_move rfl) ?_
        refine JP_take (i := 5) [0, 1, 2, 3, 5, 6, 7] [4] rfl (by kernel_rfl) (by kernel_rfl) (by kernel_rfl) rfl rfl (wants_none rfl) rfl (ex_nilCheck rfl) ?_
        refine JP_take (i := 6) [0, 1, 2, 3, 5, 6, 7] [4] rfl (by kernel_rfl) (by kernel_rfl) (by kernel_rfl) rfl rfl (wants_none rfl) rfl (ex_fieldAddr fi_91_2 rfl rfl) ?_
        refine JP_take (i := 7) [0, 1, 2, 3, 5, 6, 7] [4] rfl (by kernel_rfl) (by kernel_rfl) (by kernel_rfl) rfl rfl (wants_none rfl) rfl (ex_load_bx 3 ti_23 rfl rfl rfl) ?_
        refine JP_take (i := 8) [0, 1, 2, 3, 5, 6, 7] [4] rfl (by kernel_rfl) (by kernel_rfl) (by kernel_rfl) rfl rfl (wants_none rfl) rfl (ex_move rfl) ?_
        refine JP_take (i := 9) [0, 1, 2, 3, 5, 6, 7] [4] rfl (by kernel_rfl) (by kernel_rfl) (by kernel_rfl) rfl rfl (wants_none rfl) rfl (ex_sub rfl rfl) ?_
        refine JP_bnd fun y14 hy15 => ?_
        refine JP_ow_open (v := v0_2) 4 rfl hy15 ?_; rintro b16 cap17 rfl
        refine JP_take (i := 10) [0, 1, 2, 3, 5, 6, 7] [4] rfl (by kernel_rfl) (by kernel_rfl) (by kernel_rfl) rfl rfl (wants_none rfl) rfl (ex_index_own Try.underlying23 ti_2 rfl rfl hy15 (by first | rfl | simp)) ?_
        refine JP_go [0, 1, 2, 3, 5, 6, 7] [4] rfl rfl rfl (fun w19 h1_20 hp18 => ?_)
        refine JD_one (i := 11) (by kernel_rfl) ?_
        refine JO_q rfl (wants_none rfl) rfl (ex_load_ow_int 4 ti_2 rfl rfl hy15) ?_
        refine JD_bnd fun y22 hy23 => ?_
        refine JD_sq (i := 12) (fs := fun q24 => [.pt q24 y22]) [4] h1_20 rfl rfl (by kernel_rfl) (by kernel_rfl) (by kernel_rfl) (wants_none rfl) rfl (sq_index 2 Try.underlying28 ti_79 rfl rfl rfl hy23) (fun _ => rfl) (fun q24 h1_25 => ?_)
        refine JD_sq (i := 13) (fs := fun q26 => [.pt q26 y22.Right]) [5] h1_25 rfl rfl (by kernel_rfl) (by kernel_rfl) (by kernel_rfl) (wants_none rfl) rfl (sq_field_pt 0 (GTile.at_Right _) fi_79_2 rfl rfl rfl) (fun _ => rfl) (fun q26 h1_27 => ?_)
        refine JD_sq (i := 14) [6] h1_27 rfl rfl (by kernel_rfl) (by kernel_rfl) (by kernel_rfl) (wants_none rfl) rfl (sq_load_pt_o 0 (opens_int _) ti_2 rfl rfl) (fun _ => rfl) (fun _ h1_29 => ?_)
        refine JD_take (i := 15) hp18 rfl (by kernel_rfl) (by kernel_rfl) (by kernel_rfl) (wants_none rfl) rfl (ex_assign rfl) ?_
        refine JD_done (by kernel_rfl) ?_
        exact N_meet' () ⟨rfl, rfl, rfl, rfl, rfl, rfl, trivial⟩ [9, 4, 3, 6, 5, 7, 8] rfl rfl
      · refine J_skip ?_
        exact N_meet' () ⟨rfl, rfl, rfl, rfl, rfl, rfl, trivial⟩ [7, 2, 1, 4, 3, 5, 6] rfl rfl
    · refine N_then ?_
      refine J_seq ?_
      refine J_cut' (S' := Int) (G' := Unit) (fun s30 _ => [(0, .pointer (some ⟨b0_, 0, none⟩)), (1, .int .i64 p1), (2, .func (.func 43) #[] #[.pointer (some ⟨b3_, 0, none⟩)]), (8, .int .i64 (p0.bottom.length : Int)), (9, .int .i64 s9), (10, .int .i64 s30)]) (fun s30 _ => [rest w B_, .rd v0_0 p0.list, .rd v0_1 p0.bottom, .ow 2 v0_2 p0.places, .bx b0_ 91 [v0_0, v0_1, v0_2, .int .i64 p0.left], .bx b3_ 4 [.bool p3], .tkn (.int .i64 0) (0 : Int) (restL w B_)]) ?_ (fun s30 g31 => ?_)
      · refine J_seq ?_
        refine J_region ?_
        refine JL_q (wants_none rfl) rfl (ex_move rfl) ?_
        refine JL_q (wants_none rfl) rfl (ex_move rfl) ?_
        refine JL_q (wants_none rfl) rfl (ex_geq rfl rfl) ?_
        refine JL_nil ?_
        refine N_then ?_
        refine J_if rfl (fun h32 => ?_) (fun h32 => ?_)
        · refine J_draw [3] (by kernel_rfl) ?_
          refine JP_take (i := 0) [0, 1, 2, 4, 5, 6] [3] rfl (by kernel_rfl) (by kernel_rfl) (by kernel_rfl) rfl rfl (wants_none rfl) rfl (ex_move rfl) ?_
          refine JP_take (i := 1) [0, 1, 2, 4, 5, 6] [3] rfl (by kernel_rfl) (by kernel_rfl) (by kernel_rfl) rfl rfl (wants_none rfl) rfl (ex_nilCheck rfl) ?_
          refine JP_take (i := 2) [0, 1, 2, 4, 5, 6] [3] rfl (by kernel_rfl) (by kernel_rfl) (by kernel_rfl) rfl rfl (wants_none rfl) rfl (ex_fieldAddr fi_91_0 rfl rfl) ?_
          refine JP_take (i := 3) [0, 1, 2, 4, 5, 6] [3] rfl (by kernel_rfl) (by kernel_rfl) (by kernel_rfl) rfl rfl (wants_none rfl) rfl (ex_load_bx 3 ti_28 rfl rfl rfl) ?_
          refine JP_take (i := 4) [0, 1, 2, 4, 5, 6] [3] rfl (by kernel_rfl) (by kernel_rfl) (by kernel_rfl) rfl rfl (wants_none rfl) rfl (ex_move rfl) ?_
          refine JP_take (i := 5) [0, 1, 2, 4, 5, 6] [3] rfl (by kernel_rfl) (by kernel_rfl) (by kernel_rfl) rfl rfl (wants_none rfl) rfl (ex_nilCheck rfl) ?_
          refine JP_take (i := 6) [0, 1, 2, 4, 5, 6] [3] rfl (by kernel_rfl) (by kernel_rfl) (by kernel_rfl) rfl rfl (wants_none rfl) rfl (ex_fieldAddr fi_91_2 rfl rfl) ?_
          refine JP_take (i := 7) [0, 1, 2, 4, 5, 6] [3] rfl (by kernel_rfl) (by kernel_rfl) (by kernel_rfl) rfl rfl (wants_none rfl) rfl (ex_load_bx 3 ti_23 rfl rfl rfl) ?_
          refine JP_take (i := 8) [0, 1, 2, 4, 5, 6] [3] rfl (by kernel_rfl) (by kernel_rfl) (by kernel_rfl) rfl rfl (wants_none rfl) rfl (ex_move rfl) ?_
          refine JP_take (i := 9) [0, 1, 2, 4, 5, 6] [3] rfl (by kernel_rfl) (by kernel_rfl) (by kernel_rfl) rfl rfl (wants_none rfl) rfl (ex_move rfl) ?_
          refine JP_take (i := 10) [0, 1, 2, 4, 5, 6] [3] rfl (by kernel_rfl) (by kernel_rfl) (by kernel_rfl) rfl rfl (wants_none rfl) rfl (ex_sub rfl rfl) ?_
          refine JP_bnd fun y33 hy34 => ?_
          refine JP_ow_open (v := v0_2) 3 rfl hy34 ?_; rintro b35 cap36 rfl
          refine JP_take (i := 11) [0, 1, 2, 4, 5, 6] [3] rfl (by kernel_rfl) (by kernel_rfl) (by kernel_rfl) rfl rfl (wants_none rfl) rfl (ex_index_own Try.underlying23 ti_2 rfl rfl hy34 (by first | rfl | simp)) ?_
          refine JP_go [0, 1, 2, 4, 5, 6] [3] rfl rfl rfl (fun w38 h1_39 hp37 => ?_)
          refine JD_one (i := 12) (by kernel_rfl) ?_
          refine JO_q rfl (wants_none rfl) rfl (ex_load_ow_int 3 ti_2 rfl rfl hy34) ?_
          refine JD_bnd fun y41 hy42 => ?_
          refine JD_sq (i := 13) (fs := fun q43 => [.pt q43 y41]) [3] h1_39 rfl rfl (by kernel_rfl) (by kernel_rfl) (by kernel_rfl) (wants_none rfl) rfl (sq_index 1 Try.underlying28 ti_79 rfl rfl rfl hy42) (fun _ => rfl) (fun q43 h1_44 => ?_)
          refine JD_sq (i := 14) (fs := fun q45 => [.pt q45 y41.Top]) [4] h1_44 rfl rfl (by kernel_rfl) (by kernel_rfl) (by kernel_rfl) (wants_none rfl) rfl (sq_field_pt 0 (GTile.at_Top _) fi_79_3 rfl rfl rfl) (fun _ => rfl) (fun q45 h1_46 => ?_)
          refine JD_sq (i := 15) [5] h1_46 rfl rfl (by kernel_rfl) (by kernel_rfl) (by kernel_rfl) (wants_none rfl) rfl (sq_load_pt_o 0 (opens_int _) ti_2 rfl rfl) (fun _ => rfl) (fun _ h1_48 => ?_)
          refine JD_take (i := 16) hp37 rfl (by kernel_rfl) (by kernel_rfl) (by kernel_rfl) (wants_none rfl) rfl (ex_assign rfl) ?_
          refine JD_done (by kernel_rfl) ?_
          exact N_meet' () ⟨rfl, rfl, rfl, rfl, rfl, rfl, trivial⟩ [2, 3, 4, 5, 6, 7, 8] rfl rfl
        · refine J_skip ?_
          exact N_meet' () ⟨rfl, rfl, rfl, rfl, rfl, rfl, trivial⟩ [0, 1, 2, 3, 4, 5, 6] rfl rfl
      · refine N_then ?_
        refine J_seq ?_
        refine J_seq ?_
        refine J_region ?_
        refine JL_q (wants_none rfl) rfl (ex_move rfl) ?_
        refine JL_q (wants_none rfl) rfl (ex_nilCheck rfl) ?_
        refine JL_q (wants_none rfl) rfl (ex_fieldAddr fi_91_0 rfl rfl) ?_
        refine JL_q (wants_none rfl) rfl (ex_load_bx 4 ti_28 rfl rfl rfl) ?_
        refine JL_q (wants_none rfl) rfl (ex_len_rd 1 Try.underlying28 rfl rfl) ?_
        refine JL_q (wants_none rfl) rfl (ex_move rfl) ?_
        refine JL_nil ?_
        refine N_then ?_
        refine J_loop' (S := (List Int) × Int × Bool × Int) (G := Value) (F_impl_tiler_fill_impl_SolveTiling_1_L1 p0 p1 (fun p0 p1 p3 => fixN (fun (rec_ : (Gtiler × Int × Bool) → Option ((Bool × Bool) × ((List Int) × Int × Bool))) (a_ : Gtiler × Int × Bool) => F_impl_tiler_fill_impl_SolveTiling_1_step (fun p0 p1 p3 => rec_ (p0, p1, p3)) a_.1 a_.2.1 a_.2.2) k_ (p0, p1, p3)) s9 s30) (fun s49 g50 => [(0, .pointer (some ⟨b0_, 0, none⟩)), (1, .int .i64 p1), (2, .func (.func 43) #[] #[.pointer (some ⟨b3_, 0, none⟩)]), (8, .int .i64 (p0.bottom.length : Int)), (9, .int .i64 s9), (10, .int .i64 s30), (79, v0_0), (80, .int .i64 (p0.list.length : Int)), (81, .int .i64 s49.2.2.2)]) (fun s49 g50 => [rest w B_, .rd v0_0 p0.list, .rd v0_1 p0.bottom, .ow 2 g50 s49.1, .bx b0_ 91 [v0_0, v0_1, g50, .int .i64 s49.2.1], .bx b3_ 4 [.bool s49.2.2.1], .tkn (.int .i64 0) (0 : Int) (restL w B_)]) (p0.places, p0.left, p3, 0) v0_2 ⟨rfl, rfl, rfl, rfl, rfl, rfl, rfl, rfl, rfl, trivial⟩ [0, 1, 2, 3, 4, 5, 6] rfl rfl (fun s49 g50 => ?_) (fun s49 g50 => ?_)
        · unfold F_impl_tiler_fill_impl_SolveTiling_1_L1
          refine J_seq ?_
          refine J_region ?_
          refine JL_q (wants_none rfl) rfl (ex_lss rfl rfl) ?_
          refine JL_nil ?_
          refine N_then ?_
          refine J_seq ?_
          refine J_if rfl (fun h51 => ?_) (fun h51 => ?_)
          · refine J_skip ?_
            refine N_then ?_
            refine J_seq ?_
            refine J_block ?_
            refine J_seq ?_
            refine J_region ?_
            refine JL_q (wants_none rfl) rfl (ex_move rfl) ?_
            refine JL_bnd fun y52 hy53 => ?_
            refine JL_st (wants_none rfl) rfl (st_index 1 Try.underlying28 ti_79 rfl rfl rfl hy53) (fun q54 => ?_)
            refine JL_st (wants_none rfl) rfl (st_load_pt_o 0 (GTile.opens _) ti_79 rfl rfl) (fun _ => ?_)
            refine JL_st (wants_none rfl) rfl (st_alloc zi_79 rfl) (fun b56 => ?_)
            refine JL_q (wants_none rfl) rfl (ex_assign rfl) ?_
            refine JL_sk (wants_none rfl) (sk_store_bx' 0 ti_79 rfl rfl (fun w hh => (cv_aggs ⟨cv_int, cv_int, cv_int, cv_int, trivial⟩)) rfl rfl rfl rfl) ?_
            refine JL_nil ?_
            refine N_then ?_
            refine J_seq ?_
            refine J_seq ?_
            refine J_draw [] (by kernel_rfl) ?_
            refine JP_take (i := 0) [0, 1, 2, 3, 4, 5, 6, 7, 8] [] rfl (by kernel_rfl) (by kernel_rfl) (by kernel_rfl) rfl rfl (wants_none rfl) rfl (ex_load_bx_agg 0 ti_79 rfl rfl rfl rfl) ?_
            refine JP_take (i := 1) [0, 1, 2, 3, 4, 5, 6, 7, 8] [] rfl (by kernel_rfl) (by kernel_rfl) (by kernel_rfl) rfl rfl (wants_none rfl) rfl (ex_move rfl) ?_
            refine JP_take (i := 2) [0, 1, 2, 3, 4, 5, 6, 7, 8] [] rfl (by kernel_rfl) (by kernel_rfl) (by kernel_rfl) rfl rfl (wants_none rfl) rfl (ex_move rfl) ?_
            refine JP_take (i := 3) [0, 1, 2, 3, 4, 5, 6, 7, 8] [] rfl (by kernel_rfl) (by kernel_rfl) (by kernel_rfl) rfl rfl (wants_none rfl) rfl (ex_move rfl) ?_
            refine JP_take (i := 4) [0, 1, 2, 3, 4, 5, 6, 7, 8] [] rfl (by kernel_rfl) (by kernel_rfl) (by kernel_rfl) rfl rfl (wants_none rfl) rfl (ex_move rfl) ?_
            refine JP_bnd fun u57 hu58 => ?_
            refine JP_take (i := 5) [0, 1, 2, 3, 4, 5, 6, 7, 8] [] rfl (by kernel_rfl) (by kernel_rfl) (by kernel_rfl) rfl rfl (wants_none rfl) rfl (ex_rem rfl rfl (nz_ne hu58)) ?_
            refine JP_take (i := 6) [0, 1, 2, 3, 4, 5, 6, 7, 8] [] rfl (by kernel_rfl) (by kernel_rfl) (by kernel_rfl) rfl rfl (wants_none rfl) rfl (ex_move rfl) ?_
            refine JP_take (i := 7) [0, 1, 2, 3, 4, 5, 6, 7, 8] [] rfl (by kernel_rfl) (by kernel_rfl) (by kernel_rfl) rfl rfl (wants_none rfl) rfl (ex_sub rfl rfl) ?_
            refine JP_take (i := 8) [0, 1, 2, 3, 4, 5, 6, 7, 8] [] rfl (by kernel_rfl) (by kernel_rfl) (by kernel_rfl) rfl rfl (wants_none rfl) rfl (ex_eql rfl rfl) ?_
            refine JP_go [0, 1, 2, 3, 4, 5, 6, 7, 8] [] rfl rfl rfl (fun w60 h1_61 hp59 => ?_)
            refine JD_bnd fun r62 hr63 => ?_
            refine JD_one (i := 9) (by kernel_rfl) ?_
            refine JO_call rfl (wants_none rfl) rfl Try.call90 rfl (Ca_of0 fun w hh => c_impl_fitsAt _ w (fun _ hk => hk.elim) _ _ (GTile.rdmk (Rd.mk_int _ _ _) (Rd.mk_int _ _ _) (Rd.mk_int _ _ _) (Rd.mk_int _ _ _)) _ _ _ _ hr63) (fun _ => ?_)
            refine JD_take (i := 10) hp59 rfl (by kernel_rfl) (by kernel_rfl) (by kernel_rfl) (wants_none rfl) rfl (ex_not rfl) ?_
            refine JD_done (by kernel_rfl) ?_
            refine N_then ?_
            refine J_if rfl (fun h64 => ?_) (fun h64 => ?_)
            · refine J_exit ?_
              refine N_then_exit ?_
              refine N_block_exit ?_
              refine N_then ?_
              refine J_region ?_
              refine JL_q (wants_none rfl) rfl (ex_add rfl rfl) ?_
              refine JL_q (wants_none rfl) rfl (ex_move rfl) ?_
              refine JL_nil ?_
              exact N_next' g50 ⟨rfl, rfl, rfl, rfl, rfl, rfl, rfl, rfl, rfl, trivial⟩ [2, 3, 4, 5, 6, 7, 8] rfl rfl
            · refine J_skip ?_
              refine N_then ?_
              refine J_seq ?_
              refine J_seq ?_
              refine J_region ?_
              refine JL_q (wants_none rfl) rfl (ex_move rfl) ?_
              refine JL_q (wants_none rfl) rfl (ex_nilCheck rfl) ?_
              refine JL_q (wants_none rfl) rfl (ex_fieldAddr fi_91_3 rfl rfl) ?_
              refine JL_q (wants_none rfl) rfl (ex_load_bx 6 ti_2 rfl rfl rfl) ?_
              refine JL_q (wants_none rfl) rfl (ex_eql rfl rfl) ?_
              refine JL_nil ?_
              refine N_then ?_
              refine J_if rfl (fun h65 => ?_) (fun h65 => ?_)
              · refine J_seq ?_
                refine J_region ?_
                refine JL_q (wants_none rfl) rfl (ex_assign rfl) ?_
                refine JL_q (wants_none rfl) rfl (ex_assign rfl) ?_
                refine JL_nil ?_
                refine N_then ?_
                refine J_ret ?_
                refine N_then_ret ?_
                refine N_block_ret ?_
                refine N_then_ret ?_
                refine N_round_ret ?_
                refine N_then_ret ?_
                exact N_ret2 rfl (rv_tmp rfl) (rv_tmp rfl) (fun w hh => ⟨g50, rfl, hh.sel [6, 5, 7, 8, 2] rfl⟩)
              · refine J_skip ?_
                refine N_then ?_
                refine J_seq ?_
                refine J_region ?_
                refine JL_q (wants_none rfl) rfl (ex_move rfl) ?_
                refine JL_q (wants_none rfl) rfl (ex_nilCheck rfl) ?_
                refine JL_q (wants_none rfl) rfl (ex_fieldAddr fi_91_3 rfl rfl) ?_
                refine JL_q (wants_none rfl) rfl (ex_load_bx 6 ti_2 rfl rfl rfl) ?_
                refine JL_q (wants_none rfl) rfl (ex_sub rfl rfl) ?_
                refine JL_q (wants_none rfl) rfl (ex_nilCheck rfl) ?_
                refine JL_q (wants_none rfl) rfl (ex_fieldAddr fi_91_3 rfl rfl) ?_
                refine JL_sk (wants_none rfl) (sk_store_bx' 6 ti_2 rfl rfl (fun w hh => cv_int) rfl rfl rfl rfl) ?_
                refine JL_nil ?_
                refine N_then ?_
                refine J_seq ?_
                refine J_region ?_
                refine JL_q (wants_none rfl) rfl (ex_move rfl) ?_
                refine JL_q (wants_none rfl) rfl (ex_nilCheck rfl) ?_
                refine JL_q (wants_none rfl) rfl (ex_fieldAddr fi_91_2 rfl rfl) ?_
                refine JL_q (wants_none rfl) rfl (ex_load_bx 6 ti_23 rfl rfl rfl) ?_
                refine JL_q (wants_none rfl) rfl (ex_move rfl) ?_
                refine JL_q (wants_none rfl) rfl (ex_move rfl) ?_
                refine JL_bnd fun y66 hy67 => ?_
                refine JL_ow_open (v := g50) 5 rfl hy67 ?_; rintro b68 cap69 rfl
                refine JL_q (wants_none rfl) rfl (ex_index_ow 5 Try.underlying23 ti_2 rfl rfl rfl hy67) ?_
                refine JL_sk (wants_none rfl) (sk_store_ow 5 ti_2 rfl rfl rfl hy67 (fun w hh => (Rd.mk_int _ _ _))) ?_
                refine JL_nil ?_
                refine N_then ?_
                refine J_seq ?_
                refine J_region ?_
                refine JL_q (wants_none rfl) rfl (ex_move rfl) ?_
                refine JL_q (wants_none rfl) rfl (ex_move rfl) ?_
                refine JL_q (wants_none rfl) rfl (ex_add rfl rfl) ?_
                refine JL_q (wants_none rfl) rfl (ex_move rfl) ?_
                refine JL_bnd fun r70 hr71 => ?_
                refine JL_callT (wants_none rfl) rfl Try.call42 rfl (CaT_of [6, 5, 7] [0, 1, 2, 3, 4, 8] rfl rfl (fun _ => rfl) fun w hh => ih_ w b0_ (⟨p0.list, p0.bottom, (s49.1.set p1.toNat s49.2.2.2), (w64 (s49.2.1 - 1))⟩ : Gtiler) v0_0 v0_1 (.slice (some ⟨b68, 0, none⟩) s49.1.length cap69) b3_ s49.2.2.1 _ rfl (hh.handed [6, 5, 7] rfl rfl rfl rfl) (hh.apart [6, 5, 7] rfl (hh.rd 3 rfl)) (hh.apart [6, 5, 7] rfl (hh.rd 4 rfl)) _ _ hr71) (fun x72 => ?_)
                refine JL_q (wants_none rfl) rfl (ex_move rfl) ?_
                refine JL_q (wants_none rfl) rfl (ex_extract rfl rfl) ?_
                refine JL_q (wants_none rfl) rfl (ex_extract rfl rfl) ?_
                refine JL_q (wants_none rfl) rfl (ex_assign rfl) ?_
                refine JL_q (wants_none rfl) rfl (ex_assign rfl) ?_
                refine JL_nil ?_
                refine N_then ?_
                refine J_seq ?_
                refine J_region ?_
                refine JL_q (wants_none rfl) rfl (ex_move rfl) ?_
                refine JL_q (wants_none rfl) rfl (ex_not rfl) ?_
                refine JL_nil ?_
                refine N_then ?_
                refine J_if rfl (fun h73 => ?_) (fun h73 => ?_)
                · refine J_seq ?_
                  refine J_region ?_
                  refine JL_q (wants_none rfl) rfl (ex_move rfl) ?_
                  refine JL_q (wants_none rfl) rfl (ex_assign rfl) ?_
                  refine JL_q (wants_none rfl) rfl (ex_assign rfl) ?_
                  refine JL_nil ?_
                  refine N_then ?_
                  refine J_ret ?_
                  refine N_block_ret ?_
                  refine N_then_ret ?_
                  refine N_round_ret ?_
                  refine N_then_ret ?_
                  exact N_ret2 rfl (rv_tmp rfl) (rv_tmp rfl) (fun w hh => ⟨x72, rfl, hh.sel [0, 1, 2, 8, 5] rfl⟩)
                · refine J_skip ?_
                  refine N_block ?_
                  refine N_then ?_
                  refine J_region ?_
                  refine JL_q (wants_none rfl) rfl (ex_add rfl rfl) ?_
                  refine JL_q (wants_none rfl) rfl (ex_move rfl) ?_
                  refine JL_nil ?_
                  exact N_next' x72 ⟨rfl, rfl, rfl, rfl, rfl, rfl, rfl, rfl, rfl, trivial⟩ [5, 6, 7, 1, 0, 2, 8] rfl rfl
          · refine J_exit ?_
            refine N_then_exit ?_
            exact N_break' g50 ⟨rfl, rfl, rfl, rfl, rfl, rfl, rfl, rfl, rfl, trivial⟩ [0, 1, 2, 3, 4, 5, 6] rfl rfl
        · refine N_then ?_
          refine J_seq ?_
          refine J_region ?_
          refine JL_q (wants_none rfl) rfl (ex_assign rfl) ?_
          refine JL_q (wants_none rfl) rfl (ex_assign rfl) ?_
          refine JL_nil ?_
          refine N_then ?_
          refine J_ret ?_
          exact N_ret2 rfl (rv_tmp rfl) (rv_tmp rfl) (fun w hh => ⟨g50, rfl, hh.sel [4, 3, 5, 6, 0] rfl⟩)
theorem c_impl_tiler_fill_impl_SolveTiling_1 (w : World) (b0_ : Nat) (p0 : Gtiler) (v0_0 : Value) (v0_1 : Value) (v0_2 : Value) (b3_ : Nat) (p3 : Bool) (B_ : List Nat) (hB_ : Ctx.owns [.bx b0_ 91 [v0_0, v0_1, v0_2, .int .i64 p0.left], .ow 2 v0_2 p0.places, .bx b3_ 4 [.bool p3]] = B_) (hn_ : PHanded w [.bx b0_ 91 [v0_0, v0_1, v0_2, .int .i64 p0.left], .ow 2 v0_2 p0.places, .bx b3_ 4 [.bool p3]]) (hp0_0 : Rd (fun k => k ∈ B_) w v0_0 p0.list) (hp0_1 : Rd (fun k => k ∈ B_) w v0_1 p0.bottom) (p1 : Int) (r : (Bool × Bool) × ((List Int) × Int × Bool)) (hr : F_impl_tiler_fill_impl_SolveTiling_1 p0 p1 p3 = some r) :
    PtrCon Try.prog 42 [.pointer (some ⟨b0_, 0, none⟩), .int .i64 p1, .func (.func 43) #[] #[.pointer (some ⟨b3_, 0, none⟩)]] w B_ (fun x_ : Value => .tuple #[.bool r.1.1, .bool r.1.2]) (fun x_ => [.bx b0_ 91 [v0_0, v0_1, x_, .int .i64 r.2.2.1], .ow 2 x_ r.2.1, .bx b3_ 4 [.bool r.2.2.2]]) := by
  obtain ⟨k_, hk_⟩ := fixR_some hr
  exact c_impl_tiler_fill_impl_SolveTiling_1_ind k_ w b0_ p0 v0_0 v0_1 v0_2 b3_ p3 B_ hB_ hn_ hp0_0 hp0_1 p1 r hk_

end Go.Proofs.Ytdgekmdolhfomaa
