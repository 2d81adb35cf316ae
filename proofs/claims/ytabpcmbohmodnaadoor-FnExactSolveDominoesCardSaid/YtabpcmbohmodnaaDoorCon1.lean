/-
  Each function of the program computes what its plain function says: printed by program. No condition.
-/
import Derived.Test.YtabpcmbohmodnaaDoorFn
import Derived.Test.YtabpcmbohmodnaaDoorInf
namespace Go.Proofs.YtabpcmbohmodnaaDoor
open Go Go.Tc Go.Fn
set_option linter.unusedVariables false

set_option maxHeartbeats 40000000 in
theorem c_laws_szInt64S (A : Nat → Prop) (w : World) (hA : ∀ k, A k → k < w.heap.size) (v0_ : Value) (p0 : (List Int)) (hp0 : Rd A w v0_ p0) (p1 : Int) (r : Int) (hr : F_laws_szInt64S p0 p1 = some r) :
    Con Tryd.prog 27 [v0_, .int .i64 p1] A w (fun x_ : Unit => .int .i64 r) (fun x_ => []) := by
  refine Con_of (v := fun (r : Int) (x_ : Unit) => .int .i64 r) (fs := fun r x_ => []) Tryd.func27 rfl Tryd.ntmps27 rfl ((SH.start hA).start_rd rfl hp0) rfl ?_ hr
  unfold F_laws_szInt64S
  refine J_seq ?_
  refine J_region ?_
  refine JL_q (wants_none rfl) rfl (ex_assign rfl) ?_
  refine JL_nil ?_
  refine N_then ?_
  refine J_seq ?_
  refine J_region ?_
  refine JL_q (wants_none rfl) rfl (ex_move rfl) ?_
  refine JL_q (wants_none rfl) rfl (ex_move rfl) ?_
  refine JL_q (wants_none rfl) rfl (ex_len_rd 0 Tryd.underlying24 rfl rfl) ?_
  refine JL_q (wants_none rfl) rfl (ex_sub rfl rfl) ?_
  refine JL_q (wants_none rfl) rfl (ex_assign rfl) ?_
  refine JL_nil ?_
  refine N_then ?_
  refine J_seq ?_
  refine J_seq ?_
  refine J_region ?_
  refine JL_q (wants_none rfl) rfl (ex_move rfl) ?_
  refine JL_q (wants_none rfl) rfl (ex_lss rfl rfl) ?_
  refine JL_nil ?_
  refine N_then ?_
  refine J_if rfl (fun h1 => ?_) (fun h1 => ?_)
  · refine J_seq ?_
    refine J_region ?_
    refine JL_q (wants_none rfl) rfl (ex_assign rfl) ?_
    refine JL_nil ?_
    refine N_then ?_
    refine J_ret ?_
    refine N_then_ret ?_
    exact N_ret1 rfl (rv_tmp rfl) (fun w hh => ⟨(), rfl, hh.sel [] rfl⟩)
  · refine J_skip ?_
    refine N_then ?_
    refine J_seq ?_
    refine J_region ?_
    refine JL_q (wants_none rfl) rfl (ex_move rfl) ?_
    refine JL_q (wants_none rfl) rfl (ex_assign rfl) ?_
    refine JL_nil ?_
    refine N_then ?_
    refine J_ret ?_
    exact N_ret1 rfl (rv_tmp rfl) (fun w hh => ⟨(), rfl, hh.sel [] rfl⟩)

set_option maxHeartbeats 40000000 in
theorem c_laws_szDomino (A : Nat → Prop) (w : World) (hA : ∀ k, A k → k < w.heap.size) (v0_ : Value) (p0 : GDomino) (hp0 : Rd A w v0_ p0) (p1 : Int) (r : Int) (hr : F_laws_szDomino p0 p1 = some r) :
    Con Tryd.prog 13 [v0_, .int .i64 p1] A w (fun x_ : Unit => .int .i64 r) (fun x_ => []) := by
  obtain ⟨v0_0, v0_1, rfl, hp0_0, hp0_1⟩ := GDomino.open hp0
  refine Con_of (v := fun (r : Int) (x_ : Unit) => .int .i64 r) (fs := fun r x_ => []) Tryd.func13 rfl Tryd.ntmps13 rfl (((SH.start hA).start_rd rfl hp0_0).start_rd rfl hp0_1) rfl ?_ hr
  unfold F_laws_szDomino
  refine J_seq ?_
  refine J_region ?_
  refine JL_st (wants_none rfl) rfl (st_box' rfl (fun w hh => (cv_aggs ⟨(hh.cv 1 rfl), (hh.cv 0 rfl), trivial⟩))) (fun b1 => ?_)
  refine JL_q (wants_none rfl) rfl (ex_assign rfl) ?_
  refine JL_nil ?_
  refine N_then ?_
  refine J_seq ?_
  refine J_region ?_
  refine JL_q (wants_none rfl) rfl (ex_fieldAddr fi_36_0 rfl rfl) ?_
  refine JL_q (wants_none rfl) rfl (ex_load_bx 0 ti_24 rfl rfl rfl) ?_
  refine JL_q (wants_none rfl) rfl (ex_move rfl) ?_
  refine JL_bnd fun r2 hr3 => ?_
  refine JL_call (wants_none rfl) rfl Tryd.call27 rfl (Ca_of0 fun w hh => c_laws_szInt64S _ w (fun _ hk => hk.elim) _ _ (hh.rd0 2 rfl) _ _ hr3) (fun _ => ?_)
  refine JL_q (wants_none rfl) rfl (ex_assign rfl) ?_
  refine JL_nil ?_
  refine N_then ?_
  refine J_seq ?_
  refine J_seq ?_
  refine J_region ?_
  refine JL_q (wants_none rfl) rfl (ex_move rfl) ?_
  refine JL_q (wants_none rfl) rfl (ex_lss rfl rfl) ?_
  refine JL_nil ?_
  refine N_then ?_
  refine J_if rfl (fun h4 => ?_) (fun h4 => ?_)
  · refine J_seq ?_
    refine J_region ?_
    refine JL_q (wants_none rfl) rfl (ex_assign rfl) ?_
    refine JL_nil ?_
    refine N_then ?_
    refine J_ret ?_
    refine N_then_ret ?_
    exact N_ret1 rfl (rv_tmp rfl) (fun w hh => ⟨(), rfl, hh.sel [] rfl⟩)
  · refine J_skip ?_
    refine N_then ?_
    refine J_seq ?_
    refine J_region ?_
    refine JL_q (wants_none rfl) rfl (ex_fieldAddr fi_36_1 rfl rfl) ?_
    refine JL_q (wants_none rfl) rfl (ex_load_bx 0 ti_24 rfl rfl rfl) ?_
    refine JL_q (wants_none rfl) rfl (ex_move rfl) ?_
    refine JL_bnd fun r5 hr6 => ?_
    refine JL_call (wants_none rfl) rfl Tryd.call27 rfl (Ca_of0 fun w hh => c_laws_szInt64S _ w (fun _ hk => hk.elim) _ _ (hh.rd0 1 rfl) _ _ hr6) (fun _ => ?_)
    refine JL_q (wants_none rfl) rfl (ex_assign rfl) ?_
    refine JL_nil ?_
    refine N_then ?_
    refine J_seq ?_
    refine J_seq ?_
    refine J_region ?_
    refine JL_q (wants_none rfl) rfl (ex_move rfl) ?_
    refine JL_q (wants_none rfl) rfl (ex_lss rfl rfl) ?_
    refine JL_nil ?_
    refine N_then ?_
    refine J_if rfl (fun h7 => ?_) (fun h7 => ?_)
    · refine J_seq ?_
      refine J_region ?_
      refine JL_q (wants_none rfl) rfl (ex_assign rfl) ?_
      refine JL_nil ?_
      refine N_then ?_
      refine J_ret ?_
      refine N_then_ret ?_
      exact N_ret1 rfl (rv_tmp rfl) (fun w hh => ⟨(), rfl, hh.sel [] rfl⟩)
    · refine J_skip ?_
      refine N_then ?_
      refine J_seq ?_
      refine J_region ?_
      refine JL_q (wants_none rfl) rfl (ex_move rfl) ?_
      refine JL_q (wants_none rfl) rfl (ex_assign rfl) ?_
      refine JL_nil ?_
      refine N_then ?_
      refine J_ret ?_
      exact N_ret1 rfl (rv_tmp rfl) (fun w hh => ⟨(), rfl, hh.sel [] rfl⟩)

set_option maxHeartbeats 40000000 in
theorem c_laws_szDominoS (A : Nat → Prop) (w : World) (hA : ∀ k, A k → k < w.heap.size) (v0_ : Value) (p0 : (List GDomino)) (hp0 : Rd A w v0_ p0) (p1 : Int) (r : Int) (hr : F_laws_szDominoS p0 p1 = some r) :
    Con Tryd.prog 4 [v0_, .int .i64 p1] A w (fun x_ : Unit => .int .i64 r) (fun x_ => []) := by
  refine Con_of (v := fun (r : Int) (x_ : Unit) => .int .i64 r) (fs := fun r x_ => []) Tryd.func4 rfl Tryd.ntmps4 rfl ((SH.start hA).start_rd rfl hp0) rfl ?_ hr
  unfold F_laws_szDominoS
  refine J_seq ?_
  refine J_region ?_
  refine JL_q (wants_none rfl) rfl (ex_assign rfl) ?_
  refine JL_nil ?_
  refine N_then ?_
  refine J_seq ?_
  refine J_region ?_
  refine JL_q (wants_none rfl) rfl (ex_move rfl) ?_
  refine JL_q (wants_none rfl) rfl (ex_move rfl) ?_
  refine JL_q (wants_none rfl) rfl (ex_len_rd 0 Tryd.underlying22 rfl rfl) ?_
  refine JL_q (wants_none rfl) rfl (ex_sub rfl rfl) ?_
  refine JL_q (wants_none rfl) rfl (ex_assign rfl) ?_
  refine JL_nil ?_
  refine N_then ?_
  refine J_seq ?_
  refine J_seq ?_
  refine J_region ?_
  refine JL_q (wants_none rfl) rfl (ex_move rfl) ?_
  refine JL_q (wants_none rfl) rfl (ex_lss rfl rfl) ?_
  refine JL_nil ?_
  refine N_then ?_
  refine J_if rfl (fun h1 => ?_) (fun h1 => ?_)
  · refine J_seq ?_
    refine J_region ?_
    refine JL_q (wants_none rfl) rfl (ex_assign rfl) ?_
    refine JL_nil ?_
    refine N_then ?_
    refine J_ret ?_
    refine N_then_ret ?_
    exact N_ret1 rfl (rv_tmp rfl) (fun w hh => ⟨(), rfl, hh.sel [] rfl⟩)
  · refine J_skip ?_
    refine N_then ?_
    refine J_seq ?_
    refine J_seq ?_
    refine J_region ?_
    refine JL_q (wants_none rfl) rfl (ex_assign rfl) ?_
    refine JL_nil ?_
    refine N_then ?_
    refine J_loop' (S := Int × Int) (G := Unit) (F_laws_szDominoS_L1 p0) (fun s2 _ => [(0, v0_), (1, .int .i64 s2.1), (5, .int .i64 s2.2)]) (fun s2 _ => [.rd v0_ p0]) ((w64 (p1 - (p0.length : Int))), 0) () ⟨rfl, rfl, rfl, trivial⟩ [0] rfl rfl (fun s2 g3 => ?_) (fun s2 g3 => ?_)
    · unfold F_laws_szDominoS_L1
      refine J_seq ?_
      refine J_seq ?_
      refine J_region ?_
      refine JL_q (wants_none rfl) rfl (ex_move rfl) ?_
      refine JL_q (wants_none rfl) rfl (ex_move rfl) ?_
      refine JL_q (wants_none rfl) rfl (ex_len_rd 0 Tryd.underlying22 rfl rfl) ?_
      refine JL_q (wants_none rfl) rfl (ex_lss rfl rfl) ?_
      refine JL_nil ?_
      refine N_then ?_
      refine J_if rfl (fun h4 => ?_) (fun h4 => ?_)
      · refine J_skip ?_
        refine N_then ?_
        refine J_seq ?_
        refine J_block ?_
        refine J_seq ?_
        refine J_region ?_
        refine JL_q (wants_none rfl) rfl (ex_move rfl) ?_
        refine JL_q (wants_none rfl) rfl (ex_move rfl) ?_
        refine JL_bnd fun y5 hy6 => ?_
        refine JL_st (wants_none rfl) rfl (st_index 0 Tryd.underlying22 ti_36 rfl rfl rfl hy6) (fun q7 => ?_)
        refine JL_st (wants_none rfl) rfl (st_load_pt_o 0 (GDomino.opens _) ti_36 rfl rfl) (fun v8 => ?_)
        refine JL_q (wants_none rfl) rfl (ex_move rfl) ?_
        refine JL_bnd fun r9 hr10 => ?_
        refine JL_call (wants_none rfl) rfl Tryd.call13 rfl (Ca_of0 fun w hh => c_laws_szDomino _ w (fun _ hk => hk.elim) _ _ (GDomino.rdmk (hh.rd0 0 rfl) (hh.rd0 1 rfl)) _ _ hr10) (fun _ => ?_)
        refine JL_q (wants_none rfl) rfl (ex_assign rfl) ?_
        refine JL_nil ?_
        refine N_then ?_
        refine J_seq ?_
        refine J_region ?_
        refine JL_q (wants_none rfl) rfl (ex_move rfl) ?_
        refine JL_q (wants_none rfl) rfl (ex_lss rfl rfl) ?_
        refine JL_nil ?_
        refine N_then ?_
        refine J_if rfl (fun h11 => ?_) (fun h11 => ?_)
        · refine J_seq ?_
          refine J_region ?_
          refine JL_q (wants_none rfl) rfl (ex_assign rfl) ?_
          refine JL_nil ?_
          refine N_then ?_
          refine J_ret ?_
          refine N_block_ret ?_
          refine N_then_ret ?_
          refine N_round_ret ?_
          refine N_then_ret ?_
          exact N_ret1 rfl (rv_tmp rfl) (fun w hh => ⟨(), rfl, hh.sel [] rfl⟩)
        · refine J_skip ?_
          refine N_block ?_
          refine N_then ?_
          refine J_region ?_
          refine JL_q (wants_none rfl) rfl (ex_move rfl) ?_
          refine JL_q (wants_none rfl) rfl (ex_add rfl rfl) ?_
          refine JL_q (wants_none rfl) rfl (ex_assign rfl) ?_
          refine JL_nil ?_
          exact N_next' () ⟨rfl, rfl, rfl, trivial⟩ [3] rfl rfl
      · refine J_exit ?_
        refine N_then_exit ?_
        exact N_break' () ⟨rfl, rfl, rfl, trivial⟩ [0] rfl rfl
    · refine N_then ?_
      refine J_seq ?_
      refine J_region ?_
      refine JL_q (wants_none rfl) rfl (ex_move rfl) ?_
      refine JL_q (wants_none rfl) rfl (ex_assign rfl) ?_
      refine JL_nil ?_
      refine N_then ?_
      refine J_ret ?_
      exact N_ret1 rfl (rv_tmp rfl) (fun w hh => ⟨(), rfl, hh.sel [] rfl⟩)

set_option maxHeartbeats 40000000 in
theorem c_laws_toInt64S (A : Nat → Prop) (w : World) (hA : ∀ k, A k → k < w.heap.size) (v0_ : Value) (p0 : (List Int)) (hp0 : Rd A w v0_ p0) (r : (List Int)) (hr : F_laws_toInt64S p0 = some r) :
    Con Tryd.prog 32 [v0_] A w (fun x_ : Value => x_) (fun x_ => [.ow 2 x_ r]) := by
  refine Con_of (v := fun (r : (List Int)) (x_ : Value) => x_) (fs := fun r x_ => [.ow 2 x_ r]) Tryd.func32 rfl Tryd.ntmps32 rfl ((SH.start hA).start_rd rfl hp0) rfl ?_ hr
  unfold F_laws_toInt64S
  refine J_seq ?_
  refine J_region ?_
  refine JL_q (wants_none rfl) rfl (ex_assign rfl) ?_
  refine JL_nil ?_
  refine N_then ?_
  refine J_seq ?_
  refine J_region ?_
  refine JL_q (wants_none rfl) rfl (ex_move rfl) ?_
  refine JL_q (wants_none rfl) rfl (ex_len_rd 0 Tryd.underlying24 rfl rfl) ?_
  refine JL_bnd fun z1 hz2 => ?_
  refine JL_st (wants_none rfl) rfl (st_make (α := Int) Tryd.underlying24 ti_2 zi_2 bi_2 rfl (fun _ _ => zero_int) rfl hz2) (fun b3 => ?_)
  refine JL_q (wants_none rfl) rfl (ex_assign rfl) ?_
  refine JL_nil ?_
  refine N_then ?_
  refine J_seq ?_
  refine J_seq ?_
  refine J_region ?_
  refine JL_q (wants_none rfl) rfl (ex_assign rfl) ?_
  refine JL_nil ?_
  refine N_then ?_
  refine J_loop' (S := (List Int) × Int) (G := Unit) (F_laws_toInt64S_L1 p0) (fun s4 _ => [(0, v0_), (3, (.slice (some ⟨b3, 0, none⟩) z1.length z1.length)), (4, .int .i64 s4.2)]) (fun s4 _ => [.rd v0_ p0, .ow 2 (.slice (some ⟨b3, 0, none⟩) z1.length z1.length) s4.1]) (z1, 0) () ⟨rfl, rfl, rfl, trivial⟩ [1, 0] rfl rfl (fun s4 g5 => ?_) (fun s4 g5 => ?_)
  · unfold F_laws_toInt64S_L1
    refine J_seq ?_
    refine J_seq ?_
    refine J_region ?_
    refine JL_q (wants_none rfl) rfl (ex_move rfl) ?_
    refine JL_q (wants_none rfl) rfl (ex_move rfl) ?_
    refine JL_q (wants_none rfl) rfl (ex_len_rd 0 Tryd.underlying24 rfl rfl) ?_
    refine JL_q (wants_none rfl) rfl (ex_lss rfl rfl) ?_
    refine JL_nil ?_
    refine N_then ?_
    refine J_if rfl (fun h6 => ?_) (fun h6 => ?_)
    · refine J_skip ?_
      refine N_then ?_
      refine J_seq ?_
      refine J_block ?_
      refine J_region ?_
      refine JL_q (wants_none rfl) rfl (ex_move rfl) ?_
      refine JL_q (wants_none rfl) rfl (ex_move rfl) ?_
      refine JL_q (wants_none rfl) rfl (ex_move rfl) ?_
      refine JL_q (wants_none rfl) rfl (ex_move rfl) ?_
      refine JL_bnd fun y7 hy8 => ?_
      refine JL_st (wants_none rfl) rfl (st_index 0 Tryd.underlying24 ti_2 rfl rfl rfl hy8) (fun q9 => ?_)
      refine JL_st (wants_none rfl) rfl (st_load_pt_o 0 (opens_int _) ti_2 rfl rfl) (fun _ => ?_)
      refine JL_bnd fun y11 hy12 => ?_
      refine JL_q (wants_none rfl) rfl (ex_index_ow 2 Tryd.underlying24 ti_2 rfl rfl rfl hy12) ?_
      refine JL_sk (wants_none rfl) (sk_store_ow 2 ti_2 rfl rfl rfl hy12 (fun w hh => (Rd.mk_int _ _ _))) ?_
      refine JL_nil ?_
      refine N_block ?_
      refine N_then ?_
      refine J_region ?_
      refine JL_q (wants_none rfl) rfl (ex_move rfl) ?_
      refine JL_q (wants_none rfl) rfl (ex_add rfl rfl) ?_
      refine JL_q (wants_none rfl) rfl (ex_assign rfl) ?_
      refine JL_nil ?_
      exact N_next' () ⟨rfl, rfl, rfl, trivial⟩ [1, 2] rfl rfl
    · refine J_exit ?_
      refine N_then_exit ?_
      exact N_break' () ⟨rfl, rfl, rfl, trivial⟩ [0, 1] rfl rfl
  · refine N_then ?_
    refine J_seq ?_
    refine J_region ?_
    refine JL_q (wants_none rfl) rfl (ex_move rfl) ?_
    refine JL_q (wants_none rfl) rfl (ex_assign rfl) ?_
    refine JL_nil ?_
    refine N_then ?_
    refine J_ret ?_
    exact N_ret1 rfl (rv_tmp rfl) (fun w hh => ⟨(.slice (some ⟨b3, 0, none⟩) z1.length z1.length), rfl, hh.sel [1] rfl⟩)

set_option maxHeartbeats 40000000 in
theorem c_laws_toDomino (A : Nat → Prop) (w : World) (hA : ∀ k, A k → k < w.heap.size) (v0_ : Value) (p0 : GDomino) (hp0 : Rd A w v0_ p0) (r : GDomino) (hr : F_laws_toDomino p0 = some r) :
    Con Tryd.prog 18 [v0_] A w (fun x_ : Value × Value => .agg #[x_.1, x_.2]) (fun x_ => [.ow 2 x_.1 r.Top, .ow 2 x_.2 r.Bottom]) := by
  obtain ⟨v0_0, v0_1, rfl, hp0_0, hp0_1⟩ := GDomino.open hp0
  refine Con_of (v := fun (r : GDomino) (x_ : Value × Value) => .agg #[x_.1, x_.2]) (fs := fun r x_ => [.ow 2 x_.1 r.Top, .ow 2 x_.2 r.Bottom]) Tryd.func18 rfl Tryd.ntmps18 rfl (((SH.start hA).start_rd rfl hp0_0).start_rd rfl hp0_1) rfl ?_ hr
  unfold F_laws_toDomino
  refine J_seq ?_
  refine J_region ?_
  refine JL_st (wants_none rfl) rfl (st_box' rfl (fun w hh => (cv_aggs ⟨(hh.cv 1 rfl), (hh.cv 0 rfl), trivial⟩))) (fun b1 => ?_)
  refine JL_st (wants_none rfl) rfl (st_alloc zi_40 rfl) (fun b2 => ?_)
  refine JL_nil ?_
  refine N_then ?_
  refine J_seq ?_
  refine J_region ?_
  refine JL_st (wants_none rfl) rfl (st_alloc zi_40 rfl) (fun b3 => ?_)
  refine JL_nil ?_
  refine N_then ?_
  refine J_seq ?_
  refine J_region ?_
  refine JL_q (wants_none rfl) rfl (ex_fieldAddr fi_36_0 rfl rfl) ?_
  refine JL_q (wants_none rfl) rfl (ex_load_bx 2 ti_24 rfl rfl rfl) ?_
  refine JL_bnd fun r4 hr5 => ?_
  refine JL_call (wants_none rfl) rfl Tryd.call32 rfl (Ca_self (fun _ => rfl) fun w hh => c_laws_toInt64S _ w (fun _ hk => hk.elim) _ _ (hh.rd0 4 rfl) _ hr5) (fun x6 => ?_)
  refine JL_q (wants_none rfl) rfl (ex_fieldAddr fi_40_0 rfl rfl) ?_
  refine JL_sk (wants_none rfl) (sk_store_bx' 1 ti_24 rfl rfl (fun w hh => (hh.cv_ow 0 rfl)) rfl rfl rfl rfl) ?_
  refine JL_nil ?_
  refine N_then ?_
  refine J_seq ?_
  refine J_region ?_
  refine JL_q (wants_none rfl) rfl (ex_fieldAddr fi_36_1 rfl rfl) ?_
  refine JL_q (wants_none rfl) rfl (ex_load_bx 3 ti_24 rfl rfl rfl) ?_
  refine JL_bnd fun r7 hr8 => ?_
  refine JL_call (wants_none rfl) rfl Tryd.call32 rfl (Ca_self (fun _ => rfl) fun w hh => c_laws_toInt64S _ w (fun _ hk => hk.elim) _ _ (hh.rd0 4 rfl) _ hr8) (fun x9 => ?_)
  refine JL_q (wants_none rfl) rfl (ex_fieldAddr fi_40_1 rfl rfl) ?_
  refine JL_sk (wants_none rfl) (sk_store_bx' 2 ti_24 rfl rfl (fun w hh => (hh.cv_ow 0 rfl)) rfl rfl rfl rfl) ?_
  refine JL_nil ?_
  refine N_then ?_
  refine J_seq ?_
  refine J_region ?_
  refine JL_q (wants_none rfl) rfl (ex_load_bx_agg 2 ti_40 rfl rfl rfl rfl) ?_
  refine JL_sk (wants_none rfl) (sk_store_bx' 3 ti_40 rfl rfl (fun w hh => (cv_aggs ⟨(hh.cv_ow 1 rfl), (hh.cv_ow 0 rfl), trivial⟩)) rfl rfl rfl rfl) ?_
  refine JL_nil ?_
  refine N_then ?_
  refine J_ret ?_
  exact N_ret1 rfl (rv_cell 3 rfl rfl ti_40 rfl) (fun w hh => ⟨(x6, x9), rfl, hh.sel [1, 0] rfl⟩)

set_option maxHeartbeats 40000000 in
theorem c_laws_toDominoS (A : Nat → Prop) (w : World) (hA : ∀ k, A k → k < w.heap.size) (v0_ : Value) (p0 : (List GDomino)) (hp0 : Rd A w v0_ p0) (r : (List GDomino)) (hr : F_laws_toDominoS p0 = some r) :
    Con Tryd.prog 6 [v0_] A w (fun x_ : Value × List Nat => x_.1) (fun x_ => [.od 40 x_.1 r x_.2]) := by
  refine Con_of (v := fun (r : (List GDomino)) (x_ : Value × List Nat) => x_.1) (fs := fun r x_ => [.od 40 x_.1 r x_.2]) Tryd.func6 rfl Tryd.ntmps6 rfl ((SH.start hA).start_rd rfl hp0) rfl ?_ hr
  unfold F_laws_toDominoS
  refine J_seq ?_
  refine J_region ?_
  refine JL_q (wants_none rfl) rfl (ex_assign rfl) ?_
  refine JL_nil ?_
  refine N_then ?_
  refine J_seq ?_
  refine J_region ?_
  refine JL_q (wants_none rfl) rfl (ex_move rfl) ?_
  refine JL_q (wants_none rfl) rfl (ex_len_rd 0 Tryd.underlying22 rfl rfl) ?_
  refine JL_bnd fun z1 hz2 => ?_
  refine JL_st (wants_none rfl) rfl (st_make (α := GDomino) Tryd.underlying27 ti_40 zi_40 bi_40 rfl (fun _ _ => GDomino.zero) rfl hz2) (fun b3 => ?_)
  refine JL_ctx (fun w hh => hh.ow_od 0 rfl (mke_nb hz2 (GDomino.nb nb_nil nb_nil))) ?_
  refine JL_q (wants_none rfl) rfl (ex_assign rfl) ?_
  refine JL_nil ?_
  refine N_then ?_
  refine J_seq ?_
  refine J_seq ?_
  refine J_region ?_
  refine JL_q (wants_none rfl) rfl (ex_assign rfl) ?_
  refine JL_nil ?_
  refine N_then ?_
  refine J_loop' (S := (List GDomino) × Int) (G := List Nat) (F_laws_toDominoS_L1 p0) (fun s4 g5 => [(0, v0_), (3, (.slice (some ⟨b3, 0, none⟩) z1.length z1.length)), (4, .int .i64 s4.2)]) (fun s4 g5 => [.rd v0_ p0, .od 40 (.slice (some ⟨b3, 0, none⟩) z1.length z1.length) s4.1 g5]) (z1, 0) ([] : List Nat) ⟨rfl, rfl, rfl, trivial⟩ [1, 0] rfl rfl (fun s4 g5 => ?_) (fun s4 g5 => ?_)
  · unfold F_laws_toDominoS_L1
    refine J_seq ?_
    refine J_seq ?_
    refine J_region ?_
    refine JL_q (wants_none rfl) rfl (ex_move rfl) ?_
    refine JL_q (wants_none rfl) rfl (ex_move rfl) ?_
    refine JL_q (wants_none rfl) rfl (ex_len_rd 0 Tryd.underlying22 rfl rfl) ?_
    refine JL_q (wants_none rfl) rfl (ex_lss rfl rfl) ?_
    refine JL_nil ?_
    refine N_then ?_
    refine J_if rfl (fun h6 => ?_) (fun h6 => ?_)
    · refine J_skip ?_
      refine N_then ?_
      refine J_seq ?_
      refine J_block ?_
      refine J_region ?_
      refine JL_q (wants_none rfl) rfl (ex_move rfl) ?_
      refine JL_q (wants_none rfl) rfl (ex_move rfl) ?_
      refine JL_q (wants_none rfl) rfl (ex_move rfl) ?_
      refine JL_q (wants_none rfl) rfl (ex_move rfl) ?_
      refine JL_bnd fun y7 hy8 => ?_
      refine JL_st (wants_none rfl) rfl (st_index 0 Tryd.underlying22 ti_36 rfl rfl rfl hy8) (fun q9 => ?_)
      refine JL_st (wants_none rfl) rfl (st_load_pt_o 0 (GDomino.opens _) ti_36 rfl rfl) (fun v10 => ?_)
      refine JL_bnd fun r11 hr12 => ?_
      refine JL_call (wants_none rfl) rfl Tryd.call18 rfl (Ca_self (fun _ => rfl) fun w hh => c_laws_toDomino _ w (fun _ hk => hk.elim) _ _ (GDomino.rdmk (hh.rd0 0 rfl) (hh.rd0 1 rfl)) _ hr12) (fun x13 => ?_)
      obtain ⟨x13_0, x13_1⟩ := x13
      refine JL_bnd fun y14 hy15 => ?_
      refine JL_q (wants_none rfl) rfl (ex_od 6 rfl (ex_index_ow 6 Tryd.underlying27 ti_40 rfl rfl rfl hy15)) ?_
      refine JL_ctx (fun w hh => hh.tokf 0 rfl rfl) ?_
      refine JL_ctx (fun w hh => hh.tokf 2 rfl rfl) ?_
      refine JL_sk (wants_none rfl) (sk_store_od (B2 := (((x13_0 : Value).ownBlock.toList ++ []) ++ (((x13_1 : Value).ownBlock.toList ++ []) ++ []))) 8 [1, 0] ti_40 rfl rfl rfl hy15 rfl rfl (fun w hh => (GDomino.dw (hh.dw 1 rfl) (hh.dw 0 rfl)))) ?_
      refine JL_nil ?_
      refine N_block ?_
      refine N_then ?_
      refine J_region ?_
      refine JL_q (wants_none rfl) rfl (ex_move rfl) ?_
      refine JL_q (wants_none rfl) rfl (ex_add rfl rfl) ?_
      refine JL_q (wants_none rfl) rfl (ex_assign rfl) ?_
      refine JL_nil ?_
      exact N_next' (g5 ++ (((x13_0 : Value).ownBlock.toList ++ []) ++ (((x13_1 : Value).ownBlock.toList ++ []) ++ []))) ⟨rfl, rfl, rfl, trivial⟩ [7, 8] rfl rfl
    · refine J_exit ?_
      refine N_then_exit ?_
      exact N_break' g5 ⟨rfl, rfl, rfl, trivial⟩ [0, 1] rfl rfl
  · refine N_then ?_
    refine J_seq ?_
    refine J_region ?_
    refine JL_q (wants_none rfl) rfl (ex_move rfl) ?_
    refine JL_q (wants_none rfl) rfl (ex_assign rfl) ?_
    refine JL_nil ?_
    refine N_then ?_
    refine J_ret ?_
    exact N_ret1 rfl (rv_tmp rfl) (fun w hh => ⟨((.slice (some ⟨b3, 0, none⟩) z1.length z1.length), g5), rfl, hh.sel [1] rfl⟩)

set_option maxHeartbeats 40000000 in
theorem c_spec_l00In (A : Nat → Prop) (w : World) (hA : ∀ k, A k → k < w.heap.size) (p0 : Int) (p1 : Int) (p2 : Int) (r : Bool) (hr : F_spec_l00In p0 p1 p2 = some r) :
    Con Tryd.prog 16 [.int .i64 p0, .int .i64 p1, .int .i64 p2] A w (fun x_ : Unit => .bool r) (fun x_ => []) := by
  refine Con_of (v := fun (r : Bool) (x_ : Unit) => .bool r) (fs := fun r x_ => []) Tryd.func16 rfl Tryd.ntmps16 rfl (SH.start hA) rfl ?_ hr
  unfold F_spec_l00In
  refine J_seq ?_
  refine J_region ?_
  refine JL_q (wants_none rfl) rfl (ex_assign rfl) ?_
  refine JL_nil ?_
  refine N_then ?_
  refine J_seq ?_
  refine J_region ?_
  refine JL_q (wants_none rfl) rfl (ex_move rfl) ?_
  refine JL_q (wants_none rfl) rfl (ex_move rfl) ?_
  refine JL_q (wants_none rfl) rfl (ex_geq rfl rfl) ?_
  refine JL_q (wants_none rfl) rfl (ex_move rfl) ?_
  refine JL_cond (fun h1 => ?_) (fun h1 => ?_)
  · refine JL_q (wants_some rfl rfl rfl h1) rfl (ex_move rfl) ?_
    refine JL_q (wants_some rfl rfl rfl h1) rfl (ex_move rfl) ?_
    refine JL_q (wants_some rfl rfl rfl h1) rfl (ex_leq rfl rfl) ?_
    refine JL_q (wants_none rfl) rfl (ex_pick_true rfl h1 rfl) ?_
    refine JL_q (wants_none rfl) rfl (ex_assign rfl) ?_
    refine JL_nil ?_
    refine N_then ?_
    refine J_ret ?_
    exact N_ret1 rfl (rv_tmp rfl) (fun w hh => ⟨(), rfl, hh.sel [] rfl⟩)
  · refine JL_passed rfl rfl rfl h1 ?_
    refine JL_passed rfl rfl rfl h1 ?_
    refine JL_passed rfl rfl rfl h1 ?_
    refine JL_q (wants_none rfl) rfl (ex_pick_false rfl h1 rfl) ?_
    refine JL_q (wants_none rfl) rfl (ex_assign rfl) ?_
    refine JL_nil ?_
    refine N_then ?_
    refine J_ret ?_
    exact N_ret1 rfl (rv_tmp rfl) (fun w hh => ⟨(), rfl, hh.sel [] rfl⟩)

set_option maxHeartbeats 40000000 in
theorem c_spec_l03Is (A : Nat → Prop) (w : World) (hA : ∀ k, A k → k < w.heap.size) (v0_ : Value) (p0 : (List Int)) (hp0 : Rd A w v0_ p0) (r : Bool) (hr : F_spec_l03Is p0 = some r) :
    Con Tryd.prog 28 [v0_] A w (fun x_ : Unit => .bool r) (fun x_ => []) := by
  refine Con_of (v := fun (r : Bool) (x_ : Unit) => .bool r) (fs := fun r x_ => []) Tryd.func28 rfl Tryd.ntmps28 rfl ((SH.start hA).start_rd rfl hp0) rfl ?_ hr
  unfold F_spec_l03Is
  refine J_seq ?_
  refine J_region ?_
  refine JL_q (wants_none rfl) rfl (ex_assign rfl) ?_
  refine JL_nil ?_
  refine N_then ?_
  refine J_seq ?_
  refine J_seq ?_
  refine J_region ?_
  refine JL_q (wants_none rfl) rfl (ex_assign rfl) ?_
  refine JL_nil ?_
  refine N_then ?_
  refine J_loop' (S := Int) (G := Unit) (F_spec_l03Is_L1 p0) (fun s1 _ => [(0, v0_), (3, .int .i64 s1)]) (fun s1 _ => [.rd v0_ p0]) 0 () ⟨rfl, rfl, trivial⟩ [0] rfl rfl (fun s1 g2 => ?_) (fun s1 g2 => ?_)
  · unfold F_spec_l03Is_L1
    refine J_seq ?_
    refine J_seq ?_
    refine J_region ?_
    refine JL_q (wants_none rfl) rfl (ex_move rfl) ?_
    refine JL_q (wants_none rfl) rfl (ex_move rfl) ?_
    refine JL_q (wants_none rfl) rfl (ex_len_rd 0 Tryd.underlying24 rfl rfl) ?_
    refine JL_q (wants_none rfl) rfl (ex_lss rfl rfl) ?_
    refine JL_nil ?_
    refine N_then ?_
    refine J_if rfl (fun h3 => ?_) (fun h3 => ?_)
    · refine J_skip ?_
      refine N_then ?_
      refine J_seq ?_
      refine J_block ?_
      refine J_seq ?_
      refine J_region ?_
      refine JL_q (wants_none rfl) rfl (ex_move rfl) ?_
      refine JL_q (wants_none rfl) rfl (ex_move rfl) ?_
      refine JL_bnd fun y4 hy5 => ?_
      refine JL_st (wants_none rfl) rfl (st_index 0 Tryd.underlying24 ti_2 rfl rfl rfl hy5) (fun q6 => ?_)
      refine JL_st (wants_none rfl) rfl (st_load_pt_o 0 (opens_int _) ti_2 rfl rfl) (fun _ => ?_)
      refine JL_bnd fun r8 hr9 => ?_
      refine JL_call (wants_none rfl) rfl Tryd.call16 rfl (Ca_of0 fun w hh => c_spec_l00In _ w (fun _ hk => hk.elim) _ _ _ _ hr9) (fun _ => ?_)
      refine JL_q (wants_none rfl) rfl (ex_not rfl) ?_
      refine JL_nil ?_
      refine N_then ?_
      refine J_if rfl (fun h10 => ?_) (fun h10 => ?_)
      · refine J_seq ?_
        refine J_region ?_
        refine JL_q (wants_none rfl) rfl (ex_assign rfl) ?_
        refine JL_nil ?_
        refine N_then ?_
        refine J_ret ?_
        refine N_block_ret ?_
        refine N_then_ret ?_
        refine N_round_ret ?_
        refine N_then_ret ?_
        exact N_ret1 rfl (rv_tmp rfl) (fun w hh => ⟨(), rfl, hh.sel [] rfl⟩)
      · refine J_skip ?_
        refine N_block ?_
        refine N_then ?_
        refine J_region ?_
        refine JL_q (wants_none rfl) rfl (ex_move rfl) ?_
        refine JL_q (wants_none rfl) rfl (ex_add rfl rfl) ?_
        refine JL_q (wants_none rfl) rfl (ex_assign rfl) ?_
        refine JL_nil ?_
        exact N_next' () ⟨rfl, rfl, trivial⟩ [1] rfl rfl
    · refine J_exit ?_
      refine N_then_exit ?_
      exact N_break' () ⟨rfl, rfl, trivial⟩ [0] rfl rfl
  · refine N_then ?_
    refine J_seq ?_
    refine J_region ?_
    refine JL_q (wants_none rfl) rfl (ex_move rfl) ?_
    refine JL_q (wants_none rfl) rfl (ex_len_rd 0 Tryd.underlying24 rfl rfl) ?_
    refine JL_q (wants_none rfl) rfl (ex_leq rfl rfl) ?_
    refine JL_q (wants_none rfl) rfl (ex_assign rfl) ?_
    refine JL_nil ?_
    refine N_then ?_
    refine J_ret ?_
    exact N_ret1 rfl (rv_tmp rfl) (fun w hh => ⟨(), rfl, hh.sel [] rfl⟩)

set_option maxHeartbeats 40000000 in
theorem c_spec_l32Is (A : Nat → Prop) (w : World) (hA : ∀ k, A k → k < w.heap.size) (v0_ : Value) (p0 : (List GDomino)) (hp0 : Rd A w v0_ p0) (r : Bool) (hr : F_spec_l32Is p0 = some r) :
    Con Tryd.prog 14 [v0_] A w (fun x_ : Unit => .bool r) (fun x_ => []) := by
  refine Con_of (v := fun (r : Bool) (x_ : Unit) => .bool r) (fs := fun r x_ => []) Tryd.func14 rfl Tryd.ntmps14 rfl ((SH.start hA).start_rd rfl hp0) rfl ?_ hr
  unfold F_spec_l32Is
  refine J_seq ?_
  refine J_region ?_
  refine JL_q (wants_none rfl) rfl (ex_assign rfl) ?_
  refine JL_nil ?_
  refine N_then ?_
  refine J_seq ?_
  refine J_cut' (S' := Unit) (G' := Unit) (fun _ _ => [(0, v0_)]) (fun _ _ => [.rd v0_ p0]) ?_ (fun s1 g2 => ?_)
  · refine J_seq ?_
    refine J_region ?_
    refine JL_q (wants_none rfl) rfl (ex_move rfl) ?_
    refine JL_q (wants_none rfl) rfl (ex_len_rd 0 Tryd.underlying27 rfl rfl) ?_
    refine JL_q (wants_none rfl) rfl (ex_lss rfl rfl) ?_
    refine JL_q (wants_none rfl) rfl (ex_move rfl) ?_
    refine JL_cond (fun h3 => ?_) (fun h3 => ?_)
    · refine JL_passed rfl rfl rfl h3 ?_
      refine JL_passed rfl rfl rfl h3 ?_
      refine JL_passed rfl rfl rfl h3 ?_
      refine JL_q (wants_none rfl) rfl (ex_pick_true rfl h3 rfl) ?_
      refine JL_nil ?_
      refine N_then ?_
      refine J_if_true rfl rfl ?_
      refine J_seq ?_
      refine J_region ?_
      refine JL_q (wants_none rfl) rfl (ex_assign rfl) ?_
      refine JL_nil ?_
      refine N_then ?_
      refine J_ret ?_
      refine N_mid_ret ?_
      refine N_then_ret ?_
      exact N_ret1 rfl (rv_tmp rfl) (fun w hh => ⟨(), rfl, hh.sel [] rfl⟩)
    · refine JL_q (wants_some rfl rfl rfl h3) rfl (ex_move rfl) ?_
      refine JL_q (wants_some rfl rfl rfl h3) rfl (ex_len_rd 0 Tryd.underlying27 rfl rfl) ?_
      refine JL_q (wants_some rfl rfl rfl h3) rfl (ex_gtr rfl rfl) ?_
      refine JL_q (wants_none rfl) rfl (ex_pick_false rfl h3 rfl) ?_
      refine JL_nil ?_
      refine N_then ?_
      refine J_if rfl (fun h4 => ?_) (fun h4 => ?_)
      · refine J_seq ?_
        refine J_region ?_
        refine JL_q (wants_none rfl) rfl (ex_assign rfl) ?_
        refine JL_nil ?_
        refine N_then ?_
        refine J_ret ?_
        refine N_mid_ret ?_
        refine N_then_ret ?_
        exact N_ret1 rfl (rv_tmp rfl) (fun w hh => ⟨(), rfl, hh.sel [] rfl⟩)
      · refine J_skip ?_
        exact N_meet' () ⟨rfl, trivial⟩ [0] rfl rfl
  · refine N_then ?_
    refine J_seq ?_
    refine J_seq ?_
    refine J_region ?_
    refine JL_q (wants_none rfl) rfl (ex_assign rfl) ?_
    refine JL_nil ?_
    refine N_then ?_
    refine J_loop' (S := Int) (G := Unit) (F_spec_l32Is_L1 p0) (fun s5 _ => [(0, v0_), (3, .int .i64 s5)]) (fun s5 _ => [.rd v0_ p0]) 0 () ⟨rfl, rfl, trivial⟩ [0] rfl rfl (fun s5 g6 => ?_) (fun s5 g6 => ?_)
    · unfold F_spec_l32Is_L1
      refine J_seq ?_
      refine J_seq ?_
      refine J_region ?_
      refine JL_q (wants_none rfl) rfl (ex_move rfl) ?_
      refine JL_q (wants_none rfl) rfl (ex_move rfl) ?_
      refine JL_q (wants_none rfl) rfl (ex_len_rd 0 Tryd.underlying27 rfl rfl) ?_
      refine JL_q (wants_none rfl) rfl (ex_lss rfl rfl) ?_
      refine JL_nil ?_
      refine N_then ?_
      refine J_if rfl (fun h7 => ?_) (fun h7 => ?_)
      · refine J_skip ?_
        refine N_then ?_
        refine J_seq ?_
        refine J_block ?_
        refine J_seq ?_
        refine J_draw [] (by kernel_rfl) ?_
        refine JP_take (i := 0) [0] [] rfl (by kernel_rfl) (by kernel_rfl) (by kernel_rfl) rfl rfl (wants_none rfl) rfl (ex_move rfl) ?_
        refine JP_take (i := 1) [0] [] rfl (by kernel_rfl) (by kernel_rfl) (by kernel_rfl) rfl rfl (wants_none rfl) rfl (ex_move rfl) ?_
        refine JP_bnd fun y8 hy9 => ?_
        refine JP_sq (i := 2) [] rfl (by kernel_rfl) (by kernel_rfl) (by kernel_rfl) rfl (wants_none rfl) rfl (sq_index 0 Tryd.underlying27 ti_40 rfl rfl rfl hy9) (fun q10 => ?_)
        refine JP_sq (i := 3) [] rfl (by kernel_rfl) (by kernel_rfl) (by kernel_rfl) rfl (wants_none rfl) rfl (sq_field_pt 0 (GDomino.at_Top _) fi_40_0 rfl rfl rfl) (fun q11 => ?_)
        refine JP_sq (i := 4) [] rfl (by kernel_rfl) (by kernel_rfl) (by kernel_rfl) rfl (wants_none rfl) rfl (sq_load_pt_o 0 (opens_sl _) ti_24 rfl rfl) (fun v12 => ?_)
        refine JP_go [0, 1, 2, 3] [] rfl rfl rfl (fun w14 h1_15 hp13 => ?_)
        refine JD_bnd fun r16 hr17 => ?_
        refine JD_one (i := 5) (by kernel_rfl) ?_
        refine JO_call rfl (wants_none rfl) rfl Tryd.call28 rfl (Ca_of0 fun w hh => c_spec_l03Is _ w (fun _ hk => hk.elim) _ _ (hh.rd0 0 rfl) _ hr17) (fun _ => ?_)
        refine JD_take (i := 6) hp13 rfl (by kernel_rfl) (by kernel_rfl) (by kernel_rfl) (wants_none rfl) rfl (ex_not rfl) ?_
        refine JD_take (i := 7) hp13 rfl (by kernel_rfl) (by kernel_rfl) (by kernel_rfl) (wants_none rfl) rfl (ex_move rfl) ?_
        refine JD_cond (fun h18 => ?_) (fun h18 => ?_)
        · refine JD_pass (i := 8) rfl (by kernel_rfl) (by kernel_rfl) (by kernel_rfl) rfl rfl h18 rfl ?_
          refine JD_pass (i := 9) rfl (by kernel_rfl) (by kernel_rfl) (by kernel_rfl) rfl rfl h18 rfl ?_
          refine JD_pass (i := 10) rfl (by kernel_rfl) (by kernel_rfl) (by kernel_rfl) rfl rfl h18 rfl ?_
          refine JD_pass (i := 11) rfl (by kernel_rfl) (by kernel_rfl) (by kernel_rfl) rfl rfl h18 rfl ?_
          refine JD_pass (i := 12) rfl (by kernel_rfl) (by kernel_rfl) (by kernel_rfl) rfl rfl h18 rfl ?_
          refine JD_pass (i := 13) rfl (by kernel_rfl) (by kernel_rfl) (by kernel_rfl) rfl rfl h18 rfl ?_
          refine JD_pass (i := 14) rfl (by kernel_rfl) (by kernel_rfl) (by kernel_rfl) rfl rfl h18 rfl ?_
          refine JD_take (i := 15) hp13 rfl (by kernel_rfl) (by kernel_rfl) (by kernel_rfl) (wants_none rfl) rfl (ex_pick_true rfl h18 rfl) ?_
          refine JD_take (i := 16) hp13 rfl (by kernel_rfl) (by kernel_rfl) (by kernel_rfl) (wants_none rfl) rfl (ex_move rfl) ?_
          refine JD_pass (i := 17) rfl (by kernel_rfl) (by kernel_rfl) (by kernel_rfl) rfl rfl rfl rfl ?_
          refine JD_pass (i := 18) rfl (by kernel_rfl) (by kernel_rfl) (by kernel_rfl) rfl rfl rfl rfl ?_
          refine JD_pass (i := 19) rfl (by kernel_rfl) (by kernel_rfl) (by kernel_rfl) rfl rfl rfl rfl ?_
          refine JD_pass (i := 20) rfl (by kernel_rfl) (by kernel_rfl) (by kernel_rfl) rfl rfl rfl rfl ?_
          refine JD_pass (i := 21) rfl (by kernel_rfl) (by kernel_rfl) (by kernel_rfl) rfl rfl rfl rfl ?_
          refine JD_pass (i := 22) rfl (by kernel_rfl) (by kernel_rfl) (by kernel_rfl) rfl rfl rfl rfl ?_
          refine JD_pass (i := 23) rfl (by kernel_rfl) (by kernel_rfl) (by kernel_rfl) rfl rfl rfl rfl ?_
          refine JD_pass (i := 24) rfl (by kernel_rfl) (by kernel_rfl) (by kernel_rfl) rfl rfl rfl rfl ?_
          refine JD_pass (i := 25) rfl (by kernel_rfl) (by kernel_rfl) (by kernel_rfl) rfl rfl rfl rfl ?_
          refine JD_pass (i := 26) rfl (by kernel_rfl) (by kernel_rfl) (by kernel_rfl) rfl rfl rfl rfl ?_
          refine JD_pass (i := 27) rfl (by kernel_rfl) (by kernel_rfl) (by kernel_rfl) rfl rfl rfl rfl ?_
          refine JD_pass (i := 28) rfl (by kernel_rfl) (by kernel_rfl) (by kernel_rfl) rfl rfl rfl rfl ?_
          refine JD_pass (i := 29) rfl (by kernel_rfl) (by kernel_rfl) (by kernel_rfl) rfl rfl rfl rfl ?_
          refine JD_pass (i := 30) rfl (by kernel_rfl) (by kernel_rfl) (by kernel_rfl) rfl rfl rfl rfl ?_
          refine JD_take (i := 31) hp13 rfl (by kernel_rfl) (by kernel_rfl) (by kernel_rfl) (wants_none rfl) rfl (ex_pick_true rfl rfl rfl) ?_
          refine JD_done (by kernel_rfl) ?_
          refine N_then ?_
          refine J_if_true rfl rfl ?_
          refine J_seq ?_
          refine J_region ?_
          refine JL_q (wants_none rfl) rfl (ex_assign rfl) ?_
          refine JL_nil ?_
          refine N_then ?_
          refine J_ret ?_
          refine N_block_ret ?_
          refine N_then_ret ?_
          refine N_round_ret ?_
          refine N_then_ret ?_
          exact N_ret1 rfl (rv_tmp rfl) (fun w hh => ⟨(), rfl, hh.sel [] rfl⟩)
        · refine JD_take (i := 8) hp13 rfl (by kernel_rfl) (by kernel_rfl) (by kernel_rfl) (wants_some rfl rfl rfl h18) rfl (ex_move rfl) ?_
          refine JD_take (i := 9) hp13 rfl (by kernel_rfl) (by kernel_rfl) (by kernel_rfl) (wants_some rfl rfl rfl h18) rfl (ex_move rfl) ?_
          refine JD_bnd fun y19 hy20 => ?_
          refine JD_sq (i := 10) (fs := fun q21 => [.pt q21 y19]) [] h1_15 rfl rfl (by kernel_rfl) (by kernel_rfl) (by kernel_rfl) (wants_some rfl rfl rfl h18) rfl (sq_index 3 Tryd.underlying27 ti_40 rfl rfl rfl hy20) (fun _ => rfl) (fun q21 h1_22 => ?_)
          refine JD_sq (i := 11) (fs := fun q23 => [.pt q23 y19.Bottom]) [] h1_22 rfl rfl (by kernel_rfl) (by kernel_rfl) (by kernel_rfl) (wants_some rfl rfl rfl h18) rfl (sq_field_pt 0 (GDomino.at_Bottom _) fi_40_1 rfl rfl rfl) (fun _ => rfl) (fun q23 h1_24 => ?_)
          refine JD_sq (i := 12) [] h1_24 rfl rfl (by kernel_rfl) (by kernel_rfl) (by kernel_rfl) (wants_some rfl rfl rfl h18) rfl (sq_load_pt_o 0 (opens_sl _) ti_24 rfl rfl) (fun _ => rfl) (fun v25 h1_26 => ?_)
          refine JD_bnd fun r27 hr28 => ?_
          refine JD_one (i := 13) (by kernel_rfl) ?_
          refine JO_call rfl (wants_some rfl rfl rfl h18) rfl Tryd.call28 rfl (Ca_of0 fun w hh => c_spec_l03Is _ w (fun _ hk => hk.elim) _ _ (hh.rd0 0 rfl) _ hr28) (fun _ => ?_)
          refine JD_take (i := 14) hp13 rfl (by kernel_rfl) (by kernel_rfl) (by kernel_rfl) (wants_some rfl rfl rfl h18) rfl (ex_not rfl) ?_
          refine JD_take (i := 15) hp13 rfl (by kernel_rfl) (by kernel_rfl) (by kernel_rfl) (wants_none rfl) rfl (ex_pick_false rfl h18 rfl) ?_
          refine JD_take (i := 16) hp13 rfl (by kernel_rfl) (by kernel_rfl) (by kernel_rfl) (wants_none rfl) rfl (ex_move rfl) ?_
          refine JD_cond (fun h29 => ?_) (fun h29 => ?_)
          · refine JD_pass (i := 17) rfl (by kernel_rfl) (by kernel_rfl) (by kernel_rfl) rfl rfl h29 rfl ?_
            refine JD_pass (i := 18) rfl (by kernel_rfl) (by kernel_rfl) (by kernel_rfl) rfl rfl h29 rfl ?_
            refine JD_pass (i := 19) rfl (by kernel_rfl) (by kernel_rfl) (by kernel_rfl) rfl rfl h29 rfl ?_
            refine JD_pass (i := 20) rfl (by kernel_rfl) (by kernel_rfl) (by kernel_rfl) rfl rfl h29 rfl ?_
            refine JD_pass (i := 21) rfl (by kernel_rfl) (by kernel_rfl) (by kernel_rfl) rfl rfl h29 rfl ?_
            refine JD_pass (i := 22) rfl (by kernel_rfl) (by kernel_rfl) (by kernel_rfl) rfl rfl h29 rfl ?_
            refine JD_pass (i := 23) rfl (by kernel_rfl) (by kernel_rfl) (by kernel_rfl) rfl rfl h29 rfl ?_
            refine JD_pass (i := 24) rfl (by kernel_rfl) (by kernel_rfl) (by kernel_rfl) rfl rfl h29 rfl ?_
            refine JD_pass (i := 25) rfl (by kernel_rfl) (by kernel_rfl) (by kernel_rfl) rfl rfl h29 rfl ?_
            refine JD_pass (i := 26) rfl (by kernel_rfl) (by kernel_rfl) (by kernel_rfl) rfl rfl h29 rfl ?_
            refine JD_pass (i := 27) rfl (by kernel_rfl) (by kernel_rfl) (by kernel_rfl) rfl rfl h29 rfl ?_
            refine JD_pass (i := 28) rfl (by kernel_rfl) (by kernel_rfl) (by kernel_rfl) rfl rfl h29 rfl ?_
            refine JD_pass (i := 29) rfl (by kernel_rfl) (by kernel_rfl) (by kernel_rfl) rfl rfl h29 rfl ?_
            refine JD_pass (i := 30) rfl (by kernel_rfl) (by kernel_rfl) (by kernel_rfl) rfl rfl h29 rfl ?_
            refine JD_take (i := 31) hp13 rfl (by kernel_rfl) (by kernel_rfl) (by kernel_rfl) (wants_none rfl) rfl (ex_pick_true rfl h29 rfl) ?_
            refine JD_done (by kernel_rfl) ?_
            refine N_then ?_
            refine J_if_true rfl rfl ?_
            refine J_seq ?_
            refine J_region ?_
            refine JL_q (wants_none rfl) rfl (ex_assign rfl) ?_
            refine JL_nil ?_
            refine N_then ?_
            refine J_ret ?_
            refine N_block_ret ?_
            refine N_then_ret ?_
            refine N_round_ret ?_
            refine N_then_ret ?_
            exact N_ret1 rfl (rv_tmp rfl) (fun w hh => ⟨(), rfl, hh.sel [] rfl⟩)
          · refine JD_take (i := 17) hp13 rfl (by kernel_rfl) (by kernel_rfl) (by kernel_rfl) (wants_some rfl rfl rfl h29) rfl (ex_move rfl) ?_
            refine JD_take (i := 18) hp13 rfl (by kernel_rfl) (by kernel_rfl) (by kernel_rfl) (wants_some rfl rfl rfl h29) rfl (ex_move rfl) ?_
            refine JD_bnd fun y30 hy31 => ?_
            refine JD_sq (i := 19) (fs := fun q32 => [.pt q32 y30]) [] h1_26 rfl rfl (by kernel_rfl) (by kernel_rfl) (by kernel_rfl) (wants_some rfl rfl rfl h29) rfl (sq_index 6 Tryd.underlying27 ti_40 rfl rfl rfl hy31) (fun _ => rfl) (fun q32 h1_33 => ?_)
            refine JD_sq (i := 20) (fs := fun q34 => [.pt q34 y30.Top]) [] h1_33 rfl rfl (by kernel_rfl) (by kernel_rfl) (by kernel_rfl) (wants_some rfl rfl rfl h29) rfl (sq_field_pt 0 (GDomino.at_Top _) fi_40_0 rfl rfl rfl) (fun _ => rfl) (fun q34 h1_35 => ?_)
            refine JD_sq (i := 21) [] h1_35 rfl rfl (by kernel_rfl) (by kernel_rfl) (by kernel_rfl) (wants_some rfl rfl rfl h29) rfl (sq_load_pt_o 0 (opens_sl _) ti_24 rfl rfl) (fun _ => rfl) (fun v36 h1_37 => ?_)
            refine JD_take (i := 23) hp13 rfl (by kernel_rfl) (by kernel_rfl) (by kernel_rfl) (wants_some rfl rfl rfl h29) rfl (ex_move rfl) ?_
            refine JD_take (i := 24) hp13 rfl (by kernel_rfl) (by kernel_rfl) (by kernel_rfl) (wants_some rfl rfl rfl h29) rfl (ex_move rfl) ?_
            refine JD_bnd fun y38 hy39 => ?_
            refine JD_sq (i := 25) (fs := fun q40 => [.pt q40 y38]) [] h1_37 rfl rfl (by kernel_rfl) (by kernel_rfl) (by kernel_rfl) (wants_some rfl rfl rfl h29) rfl (sq_index 9 Tryd.underlying27 ti_40 rfl rfl rfl hy39) (fun _ => rfl) (fun q40 h1_41 => ?_)
            refine JD_sq (i := 26) (fs := fun q42 => [.pt q42 y38.Bottom]) [] h1_41 rfl rfl (by kernel_rfl) (by kernel_rfl) (by kernel_rfl) (wants_some rfl rfl rfl h29) rfl (sq_field_pt 0 (GDomino.at_Bottom _) fi_40_1 rfl rfl rfl) (fun _ => rfl) (fun q42 h1_43 => ?_)
            refine JD_sq (i := 27) [] h1_43 rfl rfl (by kernel_rfl) (by kernel_rfl) (by kernel_rfl) (wants_some rfl rfl rfl h29) rfl (sq_load_pt_o 0 (opens_sl _) ti_24 rfl rfl) (fun _ => rfl) (fun v44 h1_45 => ?_)
            refine JD_two (i := 22) (j := 28) (by kernel_rfl) ?_ ?_
            · refine JO_q rfl (wants_some rfl rfl rfl h29) rfl (ex_len_rd 3 Tryd.underlying24 rfl rfl) ?_
              refine JD_one (i := 28) (by kernel_rfl) ?_
              refine JO_q rfl (wants_some rfl rfl rfl h29) rfl (ex_len_rd 0 Tryd.underlying24 rfl rfl) ?_
              refine JD_take (i := 29) hp13 rfl (by kernel_rfl) (by kernel_rfl) (by kernel_rfl) (wants_some rfl rfl rfl h29) rfl (ex_add rfl rfl) ?_
              refine JD_take (i := 30) hp13 rfl (by kernel_rfl) (by kernel_rfl) (by kernel_rfl) (wants_some rfl rfl rfl h29) rfl (ex_eql rfl rfl) ?_
              refine JD_take (i := 31) hp13 rfl (by kernel_rfl) (by kernel_rfl) (by kernel_rfl) (wants_none rfl) rfl (ex_pick_false rfl h29 rfl) ?_
              refine JD_done (by kernel_rfl) ?_
              refine N_then ?_
              refine J_if rfl (fun h46 => ?_) (fun h46 => ?_)
              · refine J_seq ?_
                refine J_region ?_
                refine JL_q (wants_none rfl) rfl (ex_assign rfl) ?_
                refine JL_nil ?_
                refine N_then ?_
                refine J_ret ?_
                refine N_block_ret ?_
                refine N_then_ret ?_
                refine N_round_ret ?_
                refine N_then_ret ?_
                exact N_ret1 rfl (rv_tmp rfl) (fun w hh => ⟨(), rfl, hh.sel [] rfl⟩)
              · refine J_skip ?_
                refine N_block ?_
                refine N_then ?_
                refine J_region ?_
                refine JL_q (wants_none rfl) rfl (ex_move rfl) ?_
                refine JL_q (wants_none rfl) rfl (ex_add rfl rfl) ?_
                refine JL_q (wants_none rfl) rfl (ex_assign rfl) ?_
                refine JL_nil ?_
                exact N_next' () ⟨rfl, rfl, trivial⟩ [12] rfl rfl
            · refine JO_q rfl (wants_some rfl rfl rfl h29) rfl (ex_len_rd 0 Tryd.underlying24 rfl rfl) ?_
              refine JD_one (i := 22) (by kernel_rfl) ?_
              refine JO_q rfl (wants_some rfl rfl rfl h29) rfl (ex_len_rd 3 Tryd.underlying24 rfl rfl) ?_
              refine JD_take (i := 29) hp13 rfl (by kernel_rfl) (by kernel_rfl) (by kernel_rfl) (wants_some rfl rfl rfl h29) rfl (ex_add rfl rfl) ?_
              refine JD_take (i := 30) hp13 rfl (by kernel_rfl) (by kernel_rfl) (by kernel_rfl) (wants_some rfl rfl rfl h29) rfl (ex_eql rfl rfl) ?_
              refine JD_take (i := 31) hp13 rfl (by kernel_rfl) (by kernel_rfl) (by kernel_rfl) (wants_none rfl) rfl (ex_pick_false rfl h29 rfl) ?_
              refine JD_done (by kernel_rfl) ?_
              refine N_then ?_
              refine J_if rfl (fun h47 => ?_) (fun h47 => ?_)
              · refine J_seq ?_
                refine J_region ?_
                refine JL_q (wants_none rfl) rfl (ex_assign rfl) ?_
                refine JL_nil ?_
                refine N_then ?_
                refine J_ret ?_
                refine N_block_ret ?_
                refine N_then_ret ?_
                refine N_round_ret ?_
                refine N_then_ret ?_
                exact N_ret1 rfl (rv_tmp rfl) (fun w hh => ⟨(), rfl, hh.sel [] rfl⟩)
              · refine J_skip ?_
                refine N_block ?_
                refine N_then ?_
                refine J_region ?_
                refine JL_q (wants_none rfl) rfl (ex_move rfl) ?_
                refine JL_q (wants_none rfl) rfl (ex_add rfl rfl) ?_
                refine JL_q (wants_none rfl) rfl (ex_assign rfl) ?_
                refine JL_nil ?_
                exact N_next' () ⟨rfl, rfl, trivial⟩ [12] rfl rfl
      · refine J_exit ?_
        refine N_then_exit ?_
        exact N_break' () ⟨rfl, rfl, trivial⟩ [0] rfl rfl
    · refine N_then ?_
      refine J_seq ?_
      refine J_region ?_
      refine JL_q (wants_none rfl) rfl (ex_assign rfl) ?_
      refine JL_nil ?_
      refine N_then ?_
      refine J_ret ?_
      exact N_ret1 rfl (rv_tmp rfl) (fun w hh => ⟨(), rfl, hh.sel [] rfl⟩)

set_option maxHeartbeats 40000000 in
theorem c_spec_l05Budget (A : Nat → Prop) (w : World) (hA : ∀ k, A k → k < w.heap.size) (p0 : Int) (r : Bool) (hr : F_spec_l05Budget p0 = some r) :
    Con Tryd.prog 15 [.int .i64 p0] A w (fun x_ : Unit => .bool r) (fun x_ => []) := by
  refine Con_of (v := fun (r : Bool) (x_ : Unit) => .bool r) (fs := fun r x_ => []) Tryd.func15 rfl Tryd.ntmps15 rfl (SH.start hA) rfl ?_ hr
  unfold F_spec_l05Budget
  refine J_seq ?_
  refine J_region ?_
  refine JL_q (wants_none rfl) rfl (ex_assign rfl) ?_
  refine JL_nil ?_
  refine N_then ?_
  refine J_seq ?_
  refine J_region ?_
  refine JL_q (wants_none rfl) rfl (ex_move rfl) ?_
  refine JL_bnd fun r1 hr2 => ?_
  refine JL_call (wants_none rfl) rfl Tryd.call16 rfl (Ca_of0 fun w hh => c_spec_l00In _ w (fun _ hk => hk.elim) _ _ _ _ hr2) (fun _ => ?_)
  refine JL_q (wants_none rfl) rfl (ex_assign rfl) ?_
  refine JL_nil ?_
  refine N_then ?_
  refine J_ret ?_
  exact N_ret1 rfl (rv_tmp rfl) (fun w hh => ⟨(), rfl, hh.sel [] rfl⟩)

set_option maxHeartbeats 40000000 in
theorem c_spec_l00Own (A : Nat → Prop) (w : World) (hA : ∀ k, A k → k < w.heap.size) (v0_ : Value) (p0 : (List Int)) (hp0 : Rd A w v0_ p0) (r : (List Int)) (hr : F_spec_l00Own p0 = some r) :
    Con Tryd.prog 41 [v0_] A w (fun x_ : Value => x_) (fun x_ => [.ow 2 x_ r]) := by
  refine Con_of (v := fun (r : (List Int)) (x_ : Value) => x_) (fs := fun r x_ => [.ow 2 x_ r]) Tryd.func41 rfl Tryd.ntmps41 rfl ((SH.start hA).start_rd rfl hp0) rfl ?_ hr
  unfold F_spec_l00Own
  refine J_seq ?_
  refine J_region ?_
  refine JL_q (wants_none rfl) rfl (ex_assign rfl) ?_
  refine JL_nil ?_
  refine N_then ?_
  refine J_seq ?_
  refine J_region ?_
  refine JL_st (wants_none rfl) rfl (st_buildSlice (vs := []) ([] : List Int) Tryd.underlying24 ti_2 zi_2 rfl rfl rfl (fun w hh => trivial)) (fun b1 => ?_)
  refine JL_q (wants_none rfl) rfl (ex_move rfl) ?_
  refine JL_bnd fun z2 hz3 => ?_
  refine JL_st (wants_none rfl) rfl (st_append 0 Tryd.underlying24 ti_2 zi_2 rfl bi_2 rfl rfl rfl rfl (fun w hh => hh.src_rd 1 rfl) hz3) (fun v4 => ?_)
  refine JL_q (wants_none rfl) rfl (ex_assign rfl) ?_
  refine JL_nil ?_
  refine N_then ?_
  refine J_ret ?_
  exact N_ret1 rfl (rv_tmp rfl) (fun w hh => ⟨v4, rfl, hh.sel [0] rfl⟩)

set_option maxHeartbeats 40000000 in
theorem c_spec_l00Min (A : Nat → Prop) (w : World) (hA : ∀ k, A k → k < w.heap.size) (p0 : Int) (p1 : Int) (r : Int) (hr : F_spec_l00Min p0 p1 = some r) :
    Con Tryd.prog 42 [.int .i64 p0, .int .i64 p1] A w (fun x_ : Unit => .int .i64 r) (fun x_ => []) := by
  refine Con_of (v := fun (r : Int) (x_ : Unit) => .int .i64 r) (fs := fun r x_ => []) Tryd.func42 rfl Tryd.ntmps42 rfl (SH.start hA) rfl ?_ hr
  unfold F_spec_l00Min
  refine J_seq ?_
  refine J_region ?_
  refine JL_q (wants_none rfl) rfl (ex_assign rfl) ?_
  refine JL_nil ?_
  refine N_then ?_
  refine J_seq ?_
  refine J_seq ?_
  refine J_region ?_
  refine JL_q (wants_none rfl) rfl (ex_move rfl) ?_
  refine JL_q (wants_none rfl) rfl (ex_move rfl) ?_
  refine JL_q (wants_none rfl) rfl (ex_lss rfl rfl) ?_
  refine JL_nil ?_
  refine N_then ?_
  refine J_if rfl (fun h1 => ?_) (fun h1 => ?_)
  · refine J_seq ?_
    refine J_region ?_
    refine JL_q (wants_none rfl) rfl (ex_move rfl) ?_
    refine JL_q (wants_none rfl) rfl (ex_assign rfl) ?_
    refine JL_nil ?_
    refine N_then ?_
    refine J_ret ?_
    refine N_then_ret ?_
    exact N_ret1 rfl (rv_tmp rfl) (fun w hh => ⟨(), rfl, hh.sel [] rfl⟩)
  · refine J_skip ?_
    refine N_then ?_
    refine J_seq ?_
    refine J_region ?_
    refine JL_q (wants_none rfl) rfl (ex_move rfl) ?_
    refine JL_q (wants_none rfl) rfl (ex_assign rfl) ?_
    refine JL_nil ?_
    refine N_then ?_
    refine J_ret ?_
    exact N_ret1 rfl (rv_tmp rfl) (fun w hh => ⟨(), rfl, hh.sel [] rfl⟩)

set_option maxHeartbeats 40000000 in
theorem c_spec_l00Same (A : Nat → Prop) (w : World) (hA : ∀ k, A k → k < w.heap.size) (v0_ : Value) (p0 : (List Int)) (hp0 : Rd A w v0_ p0) (v1_ : Value) (p1 : (List Int)) (hp1 : Rd A w v1_ p1) (r : Bool) (hr : F_spec_l00Same p0 p1 = some r) :
    Con Tryd.prog 43 [v0_, v1_] A w (fun x_ : Unit => .bool r) (fun x_ => []) := by
  refine Con_of (v := fun (r : Bool) (x_ : Unit) => .bool r) (fs := fun r x_ => []) Tryd.func43 rfl Tryd.ntmps43 rfl (((SH.start hA).start_rd rfl hp0).start_rd rfl hp1) rfl ?_ hr
  unfold F_spec_l00Same
  refine J_seq ?_
  refine J_region ?_
  refine JL_q (wants_none rfl) rfl (ex_assign rfl) ?_
  refine JL_nil ?_
  refine N_then ?_
  refine J_seq ?_
  refine J_seq ?_
  refine J_region ?_
  refine JL_q (wants_none rfl) rfl (ex_move rfl) ?_
  refine JL_q (wants_none rfl) rfl (ex_len_rd 1 Tryd.underlying24 rfl rfl) ?_
  refine JL_q (wants_none rfl) rfl (ex_move rfl) ?_
  refine JL_q (wants_none rfl) rfl (ex_len_rd 0 Tryd.underlying24 rfl rfl) ?_
  refine JL_q (wants_none rfl) rfl (ex_neq rfl rfl) ?_
  refine JL_nil ?_
  refine N_then ?_
  refine J_if rfl (fun h1 => ?_) (fun h1 => ?_)
  · refine J_seq ?_
    refine J_region ?_
    refine JL_q (wants_none rfl) rfl (ex_assign rfl) ?_
    refine JL_nil ?_
    refine N_then ?_
    refine J_ret ?_
    refine N_then_ret ?_
    exact N_ret1 rfl (rv_tmp rfl) (fun w hh => ⟨(), rfl, hh.sel [] rfl⟩)
  · refine J_skip ?_
    refine N_then ?_
    refine J_seq ?_
    refine J_seq ?_
    refine J_region ?_
    refine JL_q (wants_none rfl) rfl (ex_assign rfl) ?_
    refine JL_nil ?_
    refine N_then ?_
    refine J_loop' (S := Int) (G := Unit) (F_spec_l00Same_L1 p0 p1) (fun s2 _ => [(0, v0_), (1, v1_), (5, .int .i64 s2)]) (fun s2 _ => [.rd v0_ p0, .rd v1_ p1]) 0 () ⟨rfl, rfl, rfl, trivial⟩ [1, 0] rfl rfl (fun s2 g3 => ?_) (fun s2 g3 => ?_)
    · unfold F_spec_l00Same_L1
      refine J_seq ?_
      refine J_seq ?_
      refine J_region ?_
      refine JL_q (wants_none rfl) rfl (ex_move rfl) ?_
      refine JL_q (wants_none rfl) rfl (ex_move rfl) ?_
      refine JL_q (wants_none rfl) rfl (ex_len_rd 0 Tryd.underlying24 rfl rfl) ?_
      refine JL_q (wants_none rfl) rfl (ex_lss rfl rfl) ?_
      refine JL_nil ?_
      refine N_then ?_
      refine J_if rfl (fun h4 => ?_) (fun h4 => ?_)
      · refine J_skip ?_
        refine N_then ?_
        refine J_seq ?_
        refine J_block ?_
        refine J_seq ?_
        refine J_draw [] (by kernel_rfl) ?_
        refine JP_take (i := 0) [0, 1] [] rfl (by kernel_rfl) (by kernel_rfl) (by kernel_rfl) rfl rfl (wants_none rfl) rfl (ex_move rfl) ?_
        refine JP_take (i := 1) [0, 1] [] rfl (by kernel_rfl) (by kernel_rfl) (by kernel_rfl) rfl rfl (wants_none rfl) rfl (ex_move rfl) ?_
        refine JP_bnd fun y5 hy6 => ?_
        refine JP_sq (i := 2) [] rfl (by kernel_rfl) (by kernel_rfl) (by kernel_rfl) rfl (wants_none rfl) rfl (sq_index 0 Tryd.underlying24 ti_2 rfl rfl rfl hy6) (fun q7 => ?_)
        refine JP_sq (i := 3) [] rfl (by kernel_rfl) (by kernel_rfl) (by kernel_rfl) rfl (wants_none rfl) rfl (sq_load_pt_o 0 (opens_int _) ti_2 rfl rfl) (fun _ => ?_)
        refine JP_take (i := 4) [0, 1, 2] [] rfl (by kernel_rfl) (by kernel_rfl) (by kernel_rfl) rfl rfl (wants_none rfl) rfl (ex_move rfl) ?_
        refine JP_take (i := 5) [0, 1, 2] [] rfl (by kernel_rfl) (by kernel_rfl) (by kernel_rfl) rfl rfl (wants_none rfl) rfl (ex_move rfl) ?_
        refine JP_bnd fun y9 hy10 => ?_
        refine JP_sq (i := 6) [] rfl (by kernel_rfl) (by kernel_rfl) (by kernel_rfl) rfl (wants_none rfl) rfl (sq_index 2 Tryd.underlying24 ti_2 rfl rfl rfl hy10) (fun q11 => ?_)
        refine JP_sq (i := 7) [] rfl (by kernel_rfl) (by kernel_rfl) (by kernel_rfl) rfl (wants_none rfl) rfl (sq_load_pt_o 0 (opens_int _) ti_2 rfl rfl) (fun _ => ?_)
        refine JP_take (i := 8) [0, 1, 2, 3] [] rfl (by kernel_rfl) (by kernel_rfl) (by kernel_rfl) rfl rfl (wants_none rfl) rfl (ex_neq rfl rfl) ?_
        refine JP_go [] [] rfl rfl rfl (fun _ _ _ => ?_)
        refine JD_done (by kernel_rfl) ?_
        refine N_then ?_
        refine J_if rfl (fun h13 => ?_) (fun h13 => ?_)
        · refine J_seq ?_
          refine J_region ?_
          refine JL_q (wants_none rfl) rfl (ex_assign rfl) ?_
          refine JL_nil ?_
          refine N_then ?_
          refine J_ret ?_
          refine N_block_ret ?_
          refine N_then_ret ?_
          refine N_round_ret ?_
          refine N_then_ret ?_
          exact N_ret1 rfl (rv_tmp rfl) (fun w hh => ⟨(), rfl, hh.sel [] rfl⟩)
        · refine J_skip ?_
          refine N_block ?_
          refine N_then ?_
          refine J_region ?_
          refine JL_q (wants_none rfl) rfl (ex_move rfl) ?_
          refine JL_q (wants_none rfl) rfl (ex_add rfl rfl) ?_
          refine JL_q (wants_none rfl) rfl (ex_assign rfl) ?_
          refine JL_nil ?_
          exact N_next' () ⟨rfl, rfl, rfl, trivial⟩ [2, 3] rfl rfl
      · refine J_exit ?_
        refine N_then_exit ?_
        exact N_break' () ⟨rfl, rfl, rfl, trivial⟩ [0, 1] rfl rfl
    · refine N_then ?_
      refine J_seq ?_
      refine J_region ?_
      refine JL_q (wants_none rfl) rfl (ex_assign rfl) ?_
      refine JL_nil ?_
      refine N_then ?_
      refine J_ret ?_
      exact N_ret1 rfl (rv_tmp rfl) (fun w hh => ⟨(), rfl, hh.sel [] rfl⟩)

set_option maxHeartbeats 40000000 in
theorem c_spec_l32Put (A : Nat → Prop) (w : World) (hA : ∀ k, A k → k < w.heap.size) (v0_ : Value) (p0 : Gl32Rest) (hp0 : RdA A w.heap.size w v0_ p0) (v1_ : Value) (p1 : GDomino) (hp1 : RdA A w.heap.size w v1_ p1) (r : Gl32Rest × Bool) (hr : F_spec_l32Put p0 p1 = some r) :
    Con Tryd.prog 29 [v0_, v1_] A w (fun x_ : Value × List Nat => .tuple #[.agg #[x_.1, .bool r.1.upper, .int .i64 r.1.before, .int .i64 r.1.domino], .bool r.2]) (fun x_ => [.tkn x_.1 r.1.word x_.2]) := by
  refine Con_of (v := fun (r : Gl32Rest × Bool) (x_ : Value × List Nat) => .tuple #[.agg #[x_.1, .bool r.1.upper, .int .i64 r.1.before, .int .i64 r.1.domino], .bool r.2]) (fs := fun r x_ => [.tkn x_.1 r.1.word x_.2]) Tryd.func29 rfl Tryd.ntmps29 rfl (((SH.start hA).start_pa' rfl hp0).start_pa' rfl hp1) rfl ?_ hr
  unfold F_spec_l32Put
  refine J_seq ?_
  refine J_region ?_
  refine JL_st (wants_none rfl) rfl (st_alloc zi_58 rfl) (fun b1 => ?_)
  refine JL_q (wants_none rfl) rfl (ex_assign rfl) ?_
  refine JL_nil ?_
  refine N_then ?_
  refine J_seq ?_
  refine J_region ?_
  refine JL_q (wants_none rfl) rfl (ex_move rfl) ?_
  refine JL_q (wants_none rfl) rfl (ex_nilCheck_pa 1 rfl rfl) ?_
  refine JL_st (wants_none rfl) rfl (st_field_pa 1 (GDomino.at_Top _) fi_40_0 rfl rfl rfl) (fun q2 => ?_)
  refine JL_st (wants_none rfl) rfl (st_load_pa_o 0 (opens_sl _) ti_24 rfl rfl) (fun v3 => ?_)
  refine JL_bnd fun r4 hr5 => ?_
  refine JL_call (wants_none rfl) rfl Tryd.call41 rfl (Ca_self (fun _ => rfl) fun w hh => c_spec_l00Own _ w (fun _ hk => hk.elim) _ _ (hh.rd0 0 rfl) _ hr5) (fun x6 => ?_)
  refine JL_q (wants_none rfl) rfl (ex_assign rfl) ?_
  refine JL_nil ?_
  refine N_then ?_
  refine J_seq ?_
  refine J_region ?_
  refine JL_q (wants_none rfl) rfl (ex_move rfl) ?_
  refine JL_q (wants_none rfl) rfl (ex_nilCheck_pa 4 rfl rfl) ?_
  refine JL_st (wants_none rfl) rfl (st_field_pa 4 (GDomino.at_Bottom _) fi_40_1 rfl rfl rfl) (fun q7 => ?_)
  refine JL_st (wants_none rfl) rfl (st_load_pa_o 0 (opens_sl _) ti_24 rfl rfl) (fun v8 => ?_)
  refine JL_bnd fun r9 hr10 => ?_
  refine JL_call (wants_none rfl) rfl Tryd.call41 rfl (Ca_self (fun _ => rfl) fun w hh => c_spec_l00Own _ w (fun _ hk => hk.elim) _ _ (hh.rd0 0 rfl) _ hr10) (fun x11 => ?_)
  refine JL_q (wants_none rfl) rfl (ex_assign rfl) ?_
  refine JL_nil ?_
  refine N_then ?_
  refine J_seq ?_
  refine J_cut' (S' := (List Int) × (List Int)) (G' := Value × Value) (fun s12 g13 => [(4, .pointer (some ⟨b1, 0, none⟩)), (6, g13.1), (7, g13.2)]) (fun s12 g13 => [.bx b1 58 [.slice none 0 0, .bool false, .int .i64 0, .int .i64 0], .ow 2 g13.1 s12.1, .ow 2 g13.2 s12.2]) ?_ (fun s12 g13 => ?_)
  · refine J_seq ?_
    refine J_region ?_
    refine JL_q (wants_none rfl) rfl (ex_move rfl) ?_
    refine JL_q (wants_none rfl) rfl (ex_nilCheck_pa 8 rfl rfl) ?_
    refine JL_st (wants_none rfl) rfl (st_field_pa 8 (Gl32Rest.at_upper _) fi_58_1 rfl rfl rfl) (fun q14 => ?_)
    refine JL_st (wants_none rfl) rfl (st_load_pa_o 0 (opens_bool _) ti_4 rfl rfl) (fun _ => ?_)
    refine JL_nil ?_
    refine N_then ?_
    refine J_if rfl (fun h16 => ?_) (fun h16 => ?_)
    · refine J_draw [] (by kernel_rfl) ?_
      refine JP_take (i := 0) [0, 1, 2, 3, 4, 5, 6, 7, 8, 9] [] rfl (by kernel_rfl) (by kernel_rfl) (by kernel_rfl) rfl rfl (wants_none rfl) rfl (ex_move rfl) ?_
      refine JP_take (i := 1) [0, 1, 2, 3, 4, 5, 6, 7, 8, 9] [] rfl (by kernel_rfl) (by kernel_rfl) (by kernel_rfl) rfl rfl (wants_none rfl) rfl (ex_nilCheck_pa 9 rfl rfl) ?_
      refine JP_sq (i := 2) [] rfl (by kernel_rfl) (by kernel_rfl) (by kernel_rfl) rfl (wants_none rfl) rfl (sq_field_pa 9 (Gl32Rest.at_word _) fi_58_0 rfl rfl rfl) (fun q17 => ?_)
      refine JP_sq (i := 3) [] rfl (by kernel_rfl) (by kernel_rfl) (by kernel_rfl) rfl (wants_none rfl) rfl (sq_load_pa_o 0 (opens_sl _) ti_24 rfl rfl) (fun v18 => ?_)
      refine JP_take (i := 5) [0, 1, 2, 3, 4, 5, 6, 7, 8, 9, 10, 11] [] rfl (by kernel_rfl) (by kernel_rfl) (by kernel_rfl) rfl rfl (wants_none rfl) rfl (ex_move rfl) ?_
      refine JP_take (i := 6) [0, 1, 2, 3, 4, 5, 6, 7, 8, 9, 10, 11] [] rfl (by kernel_rfl) (by kernel_rfl) (by kernel_rfl) rfl rfl (wants_none rfl) rfl (ex_nilCheck_pa 10 rfl rfl) ?_
      refine JP_sq (i := 7) [] rfl (by kernel_rfl) (by kernel_rfl) (by kernel_rfl) rfl (wants_none rfl) rfl (sq_field_pa 10 (GDomino.at_Top _) fi_40_0 rfl rfl rfl) (fun q19 => ?_)
      refine JP_sq (i := 8) [] rfl (by kernel_rfl) (by kernel_rfl) (by kernel_rfl) rfl (wants_none rfl) rfl (sq_load_pa_o 0 (opens_sl _) ti_24 rfl rfl) (fun v20 => ?_)
      refine JP_go [0, 1, 2, 3, 4, 5, 6, 7, 8, 9, 10, 11, 12, 13] [] rfl rfl rfl (fun w22 h1_23 hp21 => ?_)
      refine JD_bnd fun r24 hr25 => ?_
      refine JD_one (i := 4) (by kernel_rfl) ?_
      refine JO_call rfl (wants_none rfl) rfl Tryd.call41 rfl (Ca_self (fun _ => rfl) fun w hh => c_spec_l00Own _ w (fun _ hk => hk.elim) _ _ (hh.rd0 2 rfl) _ hr25) (fun x26 => ?_)
      refine JD_bnd fun z27 hz28 => ?_
      refine JD_one (i := 9) (by kernel_rfl) ?_
      refine JO_st2 0 [] [0, 1, 2, 3, 4, 5, 6, 7, 8, 9, 10, 11, 12, 13] [1, 2, 3, 4, 5, 6, 7, 8, 9, 10, 11, 12, 13, 14] rfl rfl rfl rfl rfl rfl (wants_none rfl) rfl (st_append 0 Tryd.underlying24 ti_2 zi_2 rfl bi_2 rfl rfl rfl rfl (fun w hh => hh.src_rd 1 rfl) hz28) (fun _ hk => hk) (fun v29 => ?_)
      refine JD_take (i := 10) hp21 rfl (by kernel_rfl) (by kernel_rfl) (by kernel_rfl) (wants_none rfl) rfl (ex_assign rfl) ?_
      refine JD_done (by kernel_rfl) ?_
      exact N_meet' (v29, x11) ⟨rfl, rfl, rfl, trivial⟩ [12, 0, 6] rfl rfl
    · refine J_draw [] (by kernel_rfl) ?_
      refine JP_take (i := 0) [0, 1, 2, 3, 4, 5, 6, 7, 8, 9] [] rfl (by kernel_rfl) (by kernel_rfl) (by kernel_rfl) rfl rfl (wants_none rfl) rfl (ex_move rfl) ?_
      refine JP_take (i := 1) [0, 1, 2, 3, 4, 5, 6, 7, 8, 9] [] rfl (by kernel_rfl) (by kernel_rfl) (by kernel_rfl) rfl rfl (wants_none rfl) rfl (ex_nilCheck_pa 9 rfl rfl) ?_
      refine JP_sq (i := 2) [] rfl (by kernel_rfl) (by kernel_rfl) (by kernel_rfl) rfl (wants_none rfl) rfl (sq_field_pa 9 (Gl32Rest.at_word _) fi_58_0 rfl rfl rfl) (fun q30 => ?_)
      refine JP_sq (i := 3) [] rfl (by kernel_rfl) (by kernel_rfl) (by kernel_rfl) rfl (wants_none rfl) rfl (sq_load_pa_o 0 (opens_sl _) ti_24 rfl rfl) (fun v31 => ?_)
      refine JP_take (i := 5) [0, 1, 2, 3, 4, 5, 6, 7, 8, 9, 10, 11] [] rfl (by kernel_rfl) (by kernel_rfl) (by kernel_rfl) rfl rfl (wants_none rfl) rfl (ex_move rfl) ?_
      refine JP_take (i := 6) [0, 1, 2, 3, 4, 5, 6, 7, 8, 9, 10, 11] [] rfl (by kernel_rfl) (by kernel_rfl) (by kernel_rfl) rfl rfl (wants_none rfl) rfl (ex_nilCheck_pa 10 rfl rfl) ?_
      refine JP_sq (i := 7) [] rfl (by kernel_rfl) (by kernel_rfl) (by kernel_rfl) rfl (wants_none rfl) rfl (sq_field_pa 10 (GDomino.at_Bottom _) fi_40_1 rfl rfl rfl) (fun q32 => ?_)
      refine JP_sq (i := 8) [] rfl (by kernel_rfl) (by kernel_rfl) (by kernel_rfl) rfl (wants_none rfl) rfl (sq_load_pa_o 0 (opens_sl _) ti_24 rfl rfl) (fun v33 => ?_)
      refine JP_go [0, 1, 2, 3, 4, 5, 6, 7, 8, 9, 10, 11, 12, 13] [] rfl rfl rfl (fun w35 h1_36 hp34 => ?_)
      refine JD_bnd fun r37 hr38 => ?_
      refine JD_one (i := 4) (by kernel_rfl) ?_
      refine JO_call rfl (wants_none rfl) rfl Tryd.call41 rfl (Ca_self (fun _ => rfl) fun w hh => c_spec_l00Own _ w (fun _ hk => hk.elim) _ _ (hh.rd0 2 rfl) _ hr38) (fun x39 => ?_)
      refine JD_bnd fun z40 hz41 => ?_
      refine JD_one (i := 9) (by kernel_rfl) ?_
      refine JO_st2 0 [] [0, 1, 2, 3, 4, 5, 6, 7, 8, 9, 10, 11, 12, 13] [1, 2, 3, 4, 5, 6, 7, 8, 9, 10, 11, 12, 13, 14] rfl rfl rfl rfl rfl rfl (wants_none rfl) rfl (st_append 0 Tryd.underlying24 ti_2 zi_2 rfl bi_2 rfl rfl rfl rfl (fun w hh => hh.src_rd 1 rfl) hz41) (fun _ hk => hk) (fun v42 => ?_)
      refine JD_take (i := 10) hp34 rfl (by kernel_rfl) (by kernel_rfl) (by kernel_rfl) (wants_none rfl) rfl (ex_assign rfl) ?_
      refine JD_done (by kernel_rfl) ?_
      exact N_meet' (x6, v42) ⟨rfl, rfl, rfl, trivial⟩ [12, 9, 0] rfl rfl
  · obtain ⟨g13_0, g13_1⟩ := g13
    refine N_then ?_
    refine J_seq ?_
    refine J_region ?_
    refine JL_q (wants_none rfl) rfl (ex_move rfl) ?_
    refine JL_q (wants_none rfl) rfl (ex_len_ow 1 Tryd.underlying24 rfl rfl) ?_
    refine JL_q (wants_none rfl) rfl (ex_move rfl) ?_
    refine JL_q (wants_none rfl) rfl (ex_len_ow 2 Tryd.underlying24 rfl rfl) ?_
    refine JL_bnd fun r43 hr44 => ?_
    refine JL_call (wants_none rfl) rfl Tryd.call42 rfl (Ca_of0 fun w hh => c_spec_l00Min _ w (fun _ hk => hk.elim) _ _ _ hr44) (fun _ => ?_)
    refine JL_q (wants_none rfl) rfl (ex_assign rfl) ?_
    refine JL_nil ?_
    refine N_then ?_
    refine J_seq ?_
    refine J_seq ?_
    refine J_draw [] (by kernel_rfl) ?_
    refine JP_take (i := 0) [0, 1, 2] [] rfl (by kernel_rfl) (by kernel_rfl) (by kernel_rfl) rfl rfl (wants_none rfl) rfl (ex_move rfl) ?_
    refine JP_take (i := 1) [0, 1, 2] [] rfl (by kernel_rfl) (by kernel_rfl) (by kernel_rfl) rfl rfl (wants_none rfl) rfl (ex_move rfl) ?_
    refine JP_bnd fun z45 hz46 => ?_
    refine JP_ctx (fun w hh => hh.tokf 1 rfl rfl) ?_
    refine JP_sq (i := 2) [] rfl (by kernel_rfl) (by kernel_rfl) (by kernel_rfl) rfl (wants_none rfl) rfl (sq_slice 2 Tryd.underlying24 ti_2 rfl rfl rfl rfl hz46) (fun v47 => ?_)
    refine JP_take (i := 3) [0, 1, 2, 3, 4] [] rfl (by kernel_rfl) (by kernel_rfl) (by kernel_rfl) rfl rfl (wants_none rfl) rfl (ex_move rfl) ?_
    refine JP_take (i := 4) [0, 1, 2, 3, 4] [] rfl (by kernel_rfl) (by kernel_rfl) (by kernel_rfl) rfl rfl (wants_none rfl) rfl (ex_move rfl) ?_
    refine JP_bnd fun z48 hz49 => ?_
    refine JP_ctx (fun w hh => hh.tokf 4 rfl rfl) ?_
    refine JP_sq (i := 5) [] rfl (by kernel_rfl) (by kernel_rfl) (by kernel_rfl) rfl (wants_none rfl) rfl (sq_slice 5 Tryd.underlying24 ti_2 rfl rfl rfl rfl hz49) (fun v50 => ?_)
    refine JP_go [0, 1, 2, 3, 4, 5, 6] [] rfl rfl rfl (fun w52 h1_53 hp51 => ?_)
    refine JD_bnd fun r54 hr55 => ?_
    refine JD_one (i := 6) (by kernel_rfl) ?_
    refine JO_call rfl (wants_none rfl) rfl Tryd.call43 rfl (Ca_of0 fun w hh => c_spec_l00Same _ w (fun _ hk => hk.elim) _ _ (hh.rd0 2 rfl) _ _ (hh.rd0 0 rfl) _ hr55) (fun _ => ?_)
    refine JD_take (i := 7) hp51 rfl (by kernel_rfl) (by kernel_rfl) (by kernel_rfl) (wants_none rfl) rfl (ex_not rfl) ?_
    refine JD_done (by kernel_rfl) ?_
    refine N_then ?_
    refine J_if rfl (fun h56 => ?_) (fun h56 => ?_)
    · refine J_seq ?_
      refine J_region ?_
      refine JL_q (wants_none rfl) rfl (ex_build si_58 rfl .nil (fun w hh => trivial)) ?_
      refine JL_sk (wants_none rfl) (sk_store_bx' 4 ti_58 rfl rfl (fun w hh => (cv_aggs ⟨cv_slice, cv_bool, cv_int, cv_int, trivial⟩)) rfl rfl rfl rfl) ?_
      refine JL_q (wants_none rfl) rfl (ex_assign rfl) ?_
      refine JL_nil ?_
      refine N_then ?_
      refine J_ret ?_
      refine N_then_ret ?_
      refine N_ctx (fun w hh => SH.ow_nil (α := Int) 2 hh) ?_
      refine N_ctx (fun w hh => hh.tokf 0 rfl rfl) ?_
      exact N_ret2 rfl (rv_cell 6 rfl rfl ti_58 rfl) (rv_tmp rfl) (fun w hh => ⟨((.slice none 0 0 : Value), ((.slice none 0 0 : Value).ownBlock.toList ++ [])), rfl, hh.sel [0] rfl⟩)
    · refine J_skip ?_
      refine N_then ?_
      refine J_seq ?_
      refine J_seq ?_
      refine J_region ?_
      refine JL_q (wants_none rfl) rfl (ex_move rfl) ?_
      refine JL_q (wants_none rfl) rfl (ex_len_rd 5 Tryd.underlying24 rfl rfl) ?_
      refine JL_q (wants_none rfl) rfl (ex_move rfl) ?_
      refine JL_q (wants_none rfl) rfl (ex_gtr rfl rfl) ?_
      refine JL_nil ?_
      refine N_then ?_
      refine J_if rfl (fun h57 => ?_) (fun h57 => ?_)
      · refine J_seq ?_
        refine J_region ?_
        refine JL_q (wants_none rfl) rfl (ex_move rfl) ?_
        refine JL_q (wants_none rfl) rfl (ex_move rfl) ?_
        refine JL_bnd fun z58 hz59 => ?_
        refine JL_st (wants_none rfl) rfl (st_slice_sub 5 Tryd.underlying24 ti_2 rfl rfl rfl rfl hz59) (fun v60 => ?_)
        refine JL_ctx (fun w hh => hh.sub_tkn 5 rfl (hh.pr 1 rfl)) ?_
        refine JL_q (wants_none rfl) rfl (ex_build si_58 rfl (.cons fi_58_0 rfl rfl (.cons fi_58_1 rfl rfl .nil)) (fun w hh => ⟨(hh.cv 0 rfl), cv_bool, trivial⟩)) ?_
        refine JL_sk (wants_none rfl) (sk_store_bx' 6 ti_58 rfl rfl (fun w hh => (cv_aggs ⟨(hh.cv 0 rfl), cv_bool, cv_int, cv_int, trivial⟩)) rfl rfl rfl rfl) ?_
        refine JL_q (wants_none rfl) rfl (ex_assign rfl) ?_
        refine JL_nil ?_
        refine N_then ?_
        refine J_ret ?_
        refine N_then_ret ?_
        exact N_ret2 rfl (rv_cell 6 rfl rfl ti_58 rfl) (rv_tmp rfl) (fun w hh => ⟨(v60, ((g13_0 : Value).ownBlock.toList ++ [])), rfl, hh.sel [5] rfl⟩)
      · refine J_skip ?_
        refine N_then ?_
        refine J_seq ?_
        refine J_region ?_
        refine JL_q (wants_none rfl) rfl (ex_move rfl) ?_
        refine JL_q (wants_none rfl) rfl (ex_move rfl) ?_
        refine JL_bnd fun z61 hz62 => ?_
        refine JL_st (wants_none rfl) rfl (st_slice_sub 6 Tryd.underlying24 ti_2 rfl rfl rfl rfl hz62) (fun v63 => ?_)
        refine JL_ctx (fun w hh => hh.sub_tkn 3 rfl (hh.pr 1 rfl)) ?_
        refine JL_q (wants_none rfl) rfl (ex_build si_58 rfl (.cons fi_58_0 rfl rfl .nil) (fun w hh => ⟨(hh.cv 0 rfl), trivial⟩)) ?_
        refine JL_sk (wants_none rfl) (sk_store_bx' 6 ti_58 rfl rfl (fun w hh => (cv_aggs ⟨(hh.cv 0 rfl), cv_bool, cv_int, cv_int, trivial⟩)) rfl rfl rfl rfl) ?_
        refine JL_q (wants_none rfl) rfl (ex_assign rfl) ?_
        refine JL_nil ?_
        refine N_then ?_
        refine J_ret ?_
        exact N_ret2 rfl (rv_cell 6 rfl rfl ti_58 rfl) (rv_tmp rfl) (fun w hh => ⟨(v63, ((g13_1 : Value).ownBlock.toList ++ [])), rfl, hh.sel [3] rfl⟩)

set_option maxHeartbeats 40000000 in
theorem c_spec_l32Back (A : Nat → Prop) (w : World) (hA : ∀ k, A k → k < w.heap.size) (v0_ : Value) (p0 : (List Gl32Rest)) (hp0 : Rd A w v0_ p0) (v1_ : Value) (p1 : Gl32Rest) (hp1 : RdA A w.heap.size w v1_ p1) (r : (List Int) × Int) (hr : F_spec_l32Back p0 p1 = some r) :
    Con Tryd.prog 30 [v0_, v1_] A w (fun x_ : Value => .tuple #[x_, .int .i64 r.2]) (fun x_ => [.ow 2 x_ r.1]) := by
  refine Con_of (v := fun (r : (List Int) × Int) (x_ : Value) => .tuple #[x_, .int .i64 r.2]) (fs := fun r x_ => [.ow 2 x_ r.1]) Tryd.func30 rfl Tryd.ntmps30 rfl (((SH.start hA).start_rd rfl hp0).start_pa' rfl hp1) rfl ?_ hr
  unfold F_spec_l32Back
  refine J_seq ?_
  refine J_region ?_
  refine JL_q (wants_none rfl) rfl (ex_assign rfl) ?_
  refine JL_q (wants_none rfl) rfl (ex_assign rfl) ?_
  refine JL_nil ?_
  refine N_then ?_
  refine J_seq ?_
  refine J_region ?_
  refine JL_st (wants_none rfl) rfl (st_buildSlice (vs := []) ([] : List Int) Tryd.underlying24 ti_2 zi_2 rfl rfl rfl (fun w hh => trivial)) (fun b1 => ?_)
  refine JL_q (wants_none rfl) rfl (ex_assign rfl) ?_
  refine JL_nil ?_
  refine N_then ?_
  refine J_seq ?_
  refine J_region ?_
  refine JL_q (wants_none rfl) rfl (ex_move rfl) ?_
  refine JL_q (wants_none rfl) rfl (ex_nilCheck_pa 1 rfl rfl) ?_
  refine JL_st (wants_none rfl) rfl (st_load_pa_o 1 (Gl32Rest.opens _) ti_58 rfl rfl) (fun v2 => ?_)
  refine JL_st (wants_none rfl) rfl (st_alloc zi_58 rfl) (fun b3 => ?_)
  refine JL_sk (wants_none rfl) (sk_store_bx' 0 ti_58 rfl rfl (fun w hh => (cv_aggs ⟨(hh.cv 1 rfl), cv_bool, cv_int, cv_int, trivial⟩)) rfl rfl rfl rfl) ?_
  refine JL_nil ?_
  refine N_then ?_
  refine J_seq ?_
  refine J_loop' (S := (List Int) × (List Int) × Bool × Int × Int) (G := Value × Value) (F_spec_l32Back_L1 p0) (fun s4 g5 => [(0, v0_), (6, g5.1), (7, .pointer (some ⟨b3, 0, none⟩))]) (fun s4 g5 => [.rd v0_ p0, .ow 2 g5.1 s4.1, .rd g5.2 s4.2.1, .bx b3 58 [g5.2, .bool s4.2.2.1, .int .i64 s4.2.2.2.1, .int .i64 s4.2.2.2.2]]) (([] : List Int), p1.word, p1.upper, p1.before, p1.domino) ((.slice (some ⟨b1, 0, none⟩) 0 0), v2) ⟨rfl, rfl, rfl, trivial⟩ [4, 2, 1, 0] rfl rfl (fun s4 g5 => ?_) (fun s4 g5 => ?_)
  · obtain ⟨g5_0, g5_1⟩ := g5
    unfold F_spec_l32Back_L1
    refine J_seq ?_
    refine J_seq ?_
    refine J_region ?_
    refine JL_q (wants_none rfl) rfl (ex_fieldAddr fi_58_2 rfl rfl) ?_
    refine JL_q (wants_none rfl) rfl (ex_load_bx 3 ti_3 rfl rfl rfl) ?_
    refine JL_q (wants_none rfl) rfl (ex_geq rfl rfl) ?_
    refine JL_nil ?_
    refine N_then ?_
    refine J_if rfl (fun h6 => ?_) (fun h6 => ?_)
    · refine J_skip ?_
      refine N_then ?_
      refine J_block ?_
      refine J_seq ?_
      refine J_region ?_
      refine JL_q (wants_none rfl) rfl (ex_fieldAddr fi_58_3 rfl rfl) ?_
      refine JL_q (wants_none rfl) rfl (ex_load_bx 3 ti_2 rfl rfl rfl) ?_
      refine JL_st (wants_none rfl) rfl (st_buildSlice (vs := [.int .i64 s4.2.2.2.2]) ([s4.2.2.2.2] : List Int) Tryd.underlying24 ti_2 zi_2 rfl rfl rfl (fun w hh => ⟨(Rd.mk_int _ _ _), trivial⟩)) (fun b7 => ?_)
      refine JL_q (wants_none rfl) rfl (ex_move rfl) ?_
      refine JL_bnd fun z8 hz9 => ?_
      refine JL_st (wants_none rfl) rfl (st_append 0 Tryd.underlying24 ti_2 zi_2 rfl bi_2 rfl rfl rfl rfl (fun w hh => hh.src_ow 2 rfl) hz9) (fun v10 => ?_)
      refine JL_q (wants_none rfl) rfl (ex_assign rfl) ?_
      refine JL_nil ?_
      refine N_then ?_
      refine J_region ?_
      refine JL_q (wants_none rfl) rfl (ex_move rfl) ?_
      refine JL_q (wants_none rfl) rfl (ex_fieldAddr fi_58_2 rfl rfl) ?_
      refine JL_q (wants_none rfl) rfl (ex_load_bx 4 ti_3 rfl rfl rfl) ?_
      refine JL_bnd fun y11 hy12 => ?_
      refine JL_st (wants_none rfl) rfl (st_index 1 Tryd.underlying59 ti_58 rfl rfl rfl hy12) (fun q13 => ?_)
      refine JL_st (wants_none rfl) rfl (st_load_pt_o 0 (Gl32Rest.opens _) ti_58 rfl rfl) (fun v14 => ?_)
      refine JL_sk (wants_none rfl) (sk_store_bx' 6 ti_58 rfl rfl (fun w hh => (cv_aggs ⟨(hh.cv 0 rfl), cv_bool, cv_int, cv_int, trivial⟩)) rfl rfl rfl rfl) ?_
      refine JL_nil ?_
      refine N_block ?_
      exact N_next' (v10, v14) ⟨rfl, rfl, rfl, trivial⟩ [3, 2, 0, 6] rfl rfl
    · refine J_exit ?_
      refine N_then_exit ?_
      exact N_break' (g5_0, g5_1) ⟨rfl, rfl, rfl, trivial⟩ [0, 1, 2, 3] rfl rfl
  · obtain ⟨g5_0, g5_1⟩ := g5
    refine N_then ?_
    refine J_seq ?_
    refine J_seq ?_
    refine J_region ?_
    refine JL_q (wants_none rfl) rfl (ex_move rfl) ?_
    refine JL_q (wants_none rfl) rfl (ex_len_ow 1 Tryd.underlying24 rfl rfl) ?_
    refine JL_q (wants_none rfl) rfl (ex_gtr rfl rfl) ?_
    refine JL_nil ?_
    refine N_then ?_
    refine J_if rfl (fun h15 => ?_) (fun h15 => ?_)
    · refine J_seq ?_
      refine J_region ?_
      refine JL_q (wants_none rfl) rfl (ex_assign rfl) ?_
      refine JL_q (wants_none rfl) rfl (ex_assign rfl) ?_
      refine JL_nil ?_
      refine N_then ?_
      refine J_ret ?_
      refine N_then_ret ?_
      refine N_ctx (fun w hh => SH.ow_nil (α := Int) 2 hh) ?_
      exact N_ret2 rfl (rv_tmp rfl) (rv_tmp rfl) (fun w hh => ⟨(.slice none 0 0 : Value), rfl, hh.sel [0] rfl⟩)
    · refine J_skip ?_
      refine N_then ?_
      refine J_seq ?_
      refine J_region ?_
      refine JL_q (wants_none rfl) rfl (ex_move rfl) ?_
      refine JL_q (wants_none rfl) rfl (ex_assign rfl) ?_
      refine JL_q (wants_none rfl) rfl (ex_assign rfl) ?_
      refine JL_nil ?_
      refine N_then ?_
      refine J_ret ?_
      exact N_ret2 rfl (rv_tmp rfl) (rv_tmp rfl) (fun w hh => ⟨g5_0, rfl, hh.sel [1] rfl⟩)

set_option maxHeartbeats 40000000 in
theorem c_spec_l32Known (A : Nat → Prop) (w : World) (hA : ∀ k, A k → k < w.heap.size) (v0_ : Value) (p0 : (List Gl32Rest)) (hp0 : Rd A w v0_ p0) (v1_ : Value) (p1 : Gl32Rest) (hp1 : RdA A w.heap.size w v1_ p1) (r : Bool) (hr : F_spec_l32Known p0 p1 = some r) :
    Con Tryd.prog 31 [v0_, v1_] A w (fun x_ : Unit => .bool r) (fun x_ => []) := by
  refine Con_of (v := fun (r : Bool) (x_ : Unit) => .bool r) (fs := fun r x_ => []) Tryd.func31 rfl Tryd.ntmps31 rfl (((SH.start hA).start_rd rfl hp0).start_pa' rfl hp1) rfl ?_ hr
  unfold F_spec_l32Known
  refine J_seq ?_
  refine J_region ?_
  refine JL_q (wants_none rfl) rfl (ex_assign rfl) ?_
  refine JL_nil ?_
  refine N_then ?_
  refine J_seq ?_
  refine J_seq ?_
  refine J_region ?_
  refine JL_q (wants_none rfl) rfl (ex_assign rfl) ?_
  refine JL_nil ?_
  refine N_then ?_
  refine J_loop' (S := Int) (G := Unit) (F_spec_l32Known_L1 p0 p1) (fun s1 _ => [(0, v0_), (1, v1_), (5, .int .i64 s1)]) (fun s1 _ => [.rd v0_ p0, .pa v1_ p1]) 1 () ⟨rfl, rfl, rfl, trivial⟩ [1, 0] rfl rfl (fun s1 g2 => ?_) (fun s1 g2 => ?_)
  · unfold F_spec_l32Known_L1
    refine J_seq ?_
    refine J_seq ?_
    refine J_region ?_
    refine JL_q (wants_none rfl) rfl (ex_move rfl) ?_
    refine JL_q (wants_none rfl) rfl (ex_move rfl) ?_
    refine JL_q (wants_none rfl) rfl (ex_len_rd 0 Tryd.underlying59 rfl rfl) ?_
    refine JL_q (wants_none rfl) rfl (ex_lss rfl rfl) ?_
    refine JL_nil ?_
    refine N_then ?_
    refine J_if rfl (fun h3 => ?_) (fun h3 => ?_)
    · refine J_skip ?_
      refine N_then ?_
      refine J_seq ?_
      refine J_block ?_
      refine J_seq ?_
      refine J_draw [] (by kernel_rfl) ?_
      refine JP_take (i := 0) [0, 1] [] rfl (by kernel_rfl) (by kernel_rfl) (by kernel_rfl) rfl rfl (wants_none rfl) rfl (ex_move rfl) ?_
      refine JP_take (i := 1) [0, 1] [] rfl (by kernel_rfl) (by kernel_rfl) (by kernel_rfl) rfl rfl (wants_none rfl) rfl (ex_move rfl) ?_
      refine JP_bnd fun y4 hy5 => ?_
      refine JP_sq (i := 2) [] rfl (by kernel_rfl) (by kernel_rfl) (by kernel_rfl) rfl (wants_none rfl) rfl (sq_index 0 Tryd.underlying59 ti_58 rfl rfl rfl hy5) (fun q6 => ?_)
      refine JP_sq (i := 3) [] rfl (by kernel_rfl) (by kernel_rfl) (by kernel_rfl) rfl (wants_none rfl) rfl (sq_field_pt 0 (Gl32Rest.at_upper _) fi_58_1 rfl rfl rfl) (fun q7 => ?_)
      refine JP_sq (i := 4) [] rfl (by kernel_rfl) (by kernel_rfl) (by kernel_rfl) rfl (wants_none rfl) rfl (sq_load_pt_o 0 (opens_bool _) ti_4 rfl rfl) (fun _ => ?_)
      refine JP_take (i := 5) [0, 1, 2, 3] [] rfl (by kernel_rfl) (by kernel_rfl) (by kernel_rfl) rfl rfl (wants_none rfl) rfl (ex_move rfl) ?_
      refine JP_take (i := 6) [0, 1, 2, 3] [] rfl (by kernel_rfl) (by kernel_rfl) (by kernel_rfl) rfl rfl (wants_none rfl) rfl (ex_nilCheck_pa 3 rfl rfl) ?_
      refine JP_sq (i := 7) [] rfl (by kernel_rfl) (by kernel_rfl) (by kernel_rfl) rfl (wants_none rfl) rfl (sq_field_pa 3 (Gl32Rest.at_upper _) fi_58_1 rfl rfl rfl) (fun q9 => ?_)
      refine JP_sq (i := 8) [] rfl (by kernel_rfl) (by kernel_rfl) (by kernel_rfl) rfl (wants_none rfl) rfl (sq_load_pa_o 0 (opens_bool _) ti_4 rfl rfl) (fun _ => ?_)
      refine JP_take (i := 9) [0, 1, 2, 3, 4] [] rfl (by kernel_rfl) (by kernel_rfl) (by kernel_rfl) rfl rfl (wants_none rfl) rfl (ex_eql_bool Tryd.underlying4 rfl rfl) ?_
      refine JP_take (i := 10) [0, 1, 2, 3, 4] [] rfl (by kernel_rfl) (by kernel_rfl) (by kernel_rfl) rfl rfl (wants_none rfl) rfl (ex_move rfl) ?_
      refine JP_cond (fun h11 => ?_) (fun h11 => ?_)
      · refine JP_take (i := 11) [0, 1, 2, 3, 4] [] rfl (by kernel_rfl) (by kernel_rfl) (by kernel_rfl) rfl rfl (wants_some rfl rfl rfl h11) rfl (ex_move rfl) ?_
        refine JP_take (i := 12) [0, 1, 2, 3, 4] [] rfl (by kernel_rfl) (by kernel_rfl) (by kernel_rfl) rfl rfl (wants_some rfl rfl rfl h11) rfl (ex_move rfl) ?_
        refine JP_bnd fun y12 hy13 => ?_
        refine JP_sq (i := 13) [] rfl (by kernel_rfl) (by kernel_rfl) (by kernel_rfl) rfl (wants_some rfl rfl rfl h11) rfl (sq_index 3 Tryd.underlying59 ti_58 rfl rfl rfl hy13) (fun q14 => ?_)
        refine JP_sq (i := 14) [] rfl (by kernel_rfl) (by kernel_rfl) (by kernel_rfl) rfl (wants_some rfl rfl rfl h11) rfl (sq_field_pt 0 (Gl32Rest.at_word _) fi_58_0 rfl rfl rfl) (fun q15 => ?_)
        refine JP_sq (i := 15) [] rfl (by kernel_rfl) (by kernel_rfl) (by kernel_rfl) rfl (wants_some rfl rfl rfl h11) rfl (sq_load_pt_o 0 (opens_sl _) ti_24 rfl rfl) (fun v16 => ?_)
        refine JP_take (i := 16) [0, 1, 2, 3, 4, 5, 6, 7] [] rfl (by kernel_rfl) (by kernel_rfl) (by kernel_rfl) rfl rfl (wants_some rfl rfl rfl h11) rfl (ex_move rfl) ?_
        refine JP_take (i := 17) [0, 1, 2, 3, 4, 5, 6, 7] [] rfl (by kernel_rfl) (by kernel_rfl) (by kernel_rfl) rfl rfl (wants_some rfl rfl rfl h11) rfl (ex_nilCheck_pa 7 rfl rfl) ?_
        refine JP_sq (i := 18) [] rfl (by kernel_rfl) (by kernel_rfl) (by kernel_rfl) rfl (wants_some rfl rfl rfl h11) rfl (sq_field_pa 7 (Gl32Rest.at_word _) fi_58_0 rfl rfl rfl) (fun q17 => ?_)
        refine JP_sq (i := 19) [] rfl (by kernel_rfl) (by kernel_rfl) (by kernel_rfl) rfl (wants_some rfl rfl rfl h11) rfl (sq_load_pa_o 0 (opens_sl _) ti_24 rfl rfl) (fun v18 => ?_)
        refine JP_go [0, 1, 2, 3, 4, 5, 6, 7, 8, 9] [] rfl rfl rfl (fun w20 h1_21 hp19 => ?_)
        refine JD_bnd fun r22 hr23 => ?_
        refine JD_one (i := 20) (by kernel_rfl) ?_
        refine JO_call rfl (wants_some rfl rfl rfl h11) rfl Tryd.call43 rfl (Ca_of0 fun w hh => c_spec_l00Same _ w (fun _ hk => hk.elim) _ _ (hh.rd0 2 rfl) _ _ (hh.rd0 0 rfl) _ hr23) (fun _ => ?_)
        refine JD_take (i := 21) hp19 rfl (by kernel_rfl) (by kernel_rfl) (by kernel_rfl) (wants_none rfl) rfl (ex_pick_true rfl h11 rfl) ?_
        refine JD_done (by kernel_rfl) ?_
        refine N_then ?_
        refine J_if rfl (fun h24 => ?_) (fun h24 => ?_)
        · refine J_seq ?_
          refine J_region ?_
          refine JL_q (wants_none rfl) rfl (ex_assign rfl) ?_
          refine JL_nil ?_
          refine N_then ?_
          refine J_ret ?_
          refine N_block_ret ?_
          refine N_then_ret ?_
          refine N_round_ret ?_
          refine N_then_ret ?_
          exact N_ret1 rfl (rv_tmp rfl) (fun w hh => ⟨(), rfl, hh.sel [] rfl⟩)
        · refine J_skip ?_
          refine N_block ?_
          refine N_then ?_
          refine J_region ?_
          refine JL_q (wants_none rfl) rfl (ex_move rfl) ?_
          refine JL_q (wants_none rfl) rfl (ex_add rfl rfl) ?_
          refine JL_q (wants_none rfl) rfl (ex_assign rfl) ?_
          refine JL_nil ?_
          exact N_next' () ⟨rfl, rfl, rfl, trivial⟩ [8, 9] rfl rfl
      · refine JP_pass (i := 11) rfl (by kernel_rfl) (by kernel_rfl) (by kernel_rfl) rfl rfl h11 rfl ?_
        refine JP_pass (i := 12) rfl (by kernel_rfl) (by kernel_rfl) (by kernel_rfl) rfl rfl h11 rfl ?_
        refine JP_pass (i := 13) rfl (by kernel_rfl) (by kernel_rfl) (by kernel_rfl) rfl rfl h11 rfl ?_
        refine JP_pass (i := 14) rfl (by kernel_rfl) (by kernel_rfl) (by kernel_rfl) rfl rfl h11 rfl ?_
        refine JP_pass (i := 15) rfl (by kernel_rfl) (by kernel_rfl) (by kernel_rfl) rfl rfl h11 rfl ?_
        refine JP_pass (i := 16) rfl (by kernel_rfl) (by kernel_rfl) (by kernel_rfl) rfl rfl h11 rfl ?_
        refine JP_pass (i := 17) rfl (by kernel_rfl) (by kernel_rfl) (by kernel_rfl) rfl rfl h11 rfl ?_
        refine JP_pass (i := 18) rfl (by kernel_rfl) (by kernel_rfl) (by kernel_rfl) rfl rfl h11 rfl ?_
        refine JP_pass (i := 19) rfl (by kernel_rfl) (by kernel_rfl) (by kernel_rfl) rfl rfl h11 rfl ?_
        refine JP_pass (i := 20) rfl (by kernel_rfl) (by kernel_rfl) (by kernel_rfl) rfl rfl h11 rfl ?_
        refine JP_take (i := 21) [0, 1, 2, 3, 4] [] rfl (by kernel_rfl) (by kernel_rfl) (by kernel_rfl) rfl rfl (wants_none rfl) rfl (ex_pick_false rfl h11 rfl) ?_
        refine JP_go [] [] rfl rfl rfl (fun _ _ _ => ?_)
        refine JD_done (by kernel_rfl) ?_
        refine N_then ?_
        refine J_if_false rfl rfl ?_
        refine J_skip ?_
        refine N_block ?_
        refine N_then ?_
        refine J_region ?_
        refine JL_q (wants_none rfl) rfl (ex_move rfl) ?_
        refine JL_q (wants_none rfl) rfl (ex_add rfl rfl) ?_
        refine JL_q (wants_none rfl) rfl (ex_assign rfl) ?_
        refine JL_nil ?_
        exact N_next' () ⟨rfl, rfl, rfl, trivial⟩ [3, 4] rfl rfl
    · refine J_exit ?_
      refine N_then_exit ?_
      exact N_break' () ⟨rfl, rfl, rfl, trivial⟩ [0, 1] rfl rfl
  · refine N_then ?_
    refine J_seq ?_
    refine J_region ?_
    refine JL_q (wants_none rfl) rfl (ex_assign rfl) ?_
    refine JL_nil ?_
    refine N_then ?_
    refine J_ret ?_
    exact N_ret1 rfl (rv_tmp rfl) (fun w hh => ⟨(), rfl, hh.sel [] rfl⟩)

set_option maxHeartbeats 40000000 in
theorem c_impl_size_impl_Domino (A : Nat → Prop) (w : World) (hA : ∀ k, A k → k < w.heap.size) (v0_ : Value) (p0 : (List GDomino)) (hp0 : Rd A w v0_ p0) (r : Int) (hr : F_impl_size_impl_Domino p0 = some r) :
    Con Tryd.prog 22 [v0_] A w (fun x_ : Unit => .int .i64 r) (fun x_ => []) := by
  refine Con_of (v := fun (r : Int) (x_ : Unit) => .int .i64 r) (fs := fun r x_ => []) Tryd.func22 rfl Tryd.ntmps22 rfl ((SH.start hA).start_rd rfl hp0) rfl ?_ hr
  unfold F_impl_size_impl_Domino
  refine J_seq ?_
  refine J_region ?_
  refine JL_q (wants_none rfl) rfl (ex_assign rfl) ?_
  refine JL_nil ?_
  refine N_then ?_
  refine J_seq ?_
  refine J_region ?_
  refine JL_q (wants_none rfl) rfl (ex_move rfl) ?_
  refine JL_q (wants_none rfl) rfl (ex_len_rd 0 Tryd.underlying27 rfl rfl) ?_
  refine JL_q (wants_none rfl) rfl (ex_assign rfl) ?_
  refine JL_nil ?_
  refine N_then ?_
  refine J_ret ?_
  exact N_ret1 rfl (rv_tmp rfl) (fun w hh => ⟨(), rfl, hh.sel [] rfl⟩)

set_option maxHeartbeats 40000000 in
theorem c_impl_within (A : Nat → Prop) (w : World) (hA : ∀ k, A k → k < w.heap.size) (p0 : Int) (p1 : Int) (p2 : Int) (r : Bool) (hr : F_impl_within p0 p1 p2 = some r) :
    Con Tryd.prog 21 [.int .i64 p0, .int .i64 p1, .int .i64 p2] A w (fun x_ : Unit => .bool r) (fun x_ => []) := by
  refine Con_of (v := fun (r : Bool) (x_ : Unit) => .bool r) (fs := fun r x_ => []) Tryd.func21 rfl Tryd.ntmps21 rfl (SH.start hA) rfl ?_ hr
  unfold F_impl_within
  refine J_seq ?_
  refine J_region ?_
  refine JL_q (wants_none rfl) rfl (ex_assign rfl) ?_
  refine JL_nil ?_
  refine N_then ?_
  refine J_seq ?_
  refine J_region ?_
  refine JL_q (wants_none rfl) rfl (ex_move rfl) ?_
  refine JL_q (wants_none rfl) rfl (ex_move rfl) ?_
  refine JL_q (wants_none rfl) rfl (ex_leq rfl rfl) ?_
  refine JL_q (wants_none rfl) rfl (ex_move rfl) ?_
  refine JL_cond (fun h1 => ?_) (fun h1 => ?_)
  · refine JL_q (wants_some rfl rfl rfl h1) rfl (ex_move rfl) ?_
    refine JL_q (wants_some rfl rfl rfl h1) rfl (ex_move rfl) ?_
    refine JL_q (wants_some rfl rfl rfl h1) rfl (ex_leq rfl rfl) ?_
    refine JL_q (wants_none rfl) rfl (ex_pick_true rfl h1 rfl) ?_
    refine JL_q (wants_none rfl) rfl (ex_assign rfl) ?_
    refine JL_nil ?_
    refine N_then ?_
    refine J_ret ?_
    exact N_ret1 rfl (rv_tmp rfl) (fun w hh => ⟨(), rfl, hh.sel [] rfl⟩)
  · refine JL_passed rfl rfl rfl h1 ?_
    refine JL_passed rfl rfl rfl h1 ?_
    refine JL_passed rfl rfl rfl h1 ?_
    refine JL_q (wants_none rfl) rfl (ex_pick_false rfl h1 rfl) ?_
    refine JL_q (wants_none rfl) rfl (ex_assign rfl) ?_
    refine JL_nil ?_
    refine N_then ?_
    refine J_ret ?_
    exact N_ret1 rfl (rv_tmp rfl) (fun w hh => ⟨(), rfl, hh.sel [] rfl⟩)

set_option maxHeartbeats 40000000 in
theorem c_slices_IndexFunc_Simpl_Domino_impl_Domino (A : Nat → Prop) (w : World) (hA : ∀ k, A k → k < w.heap.size) (v0_ : Value) (p0 : (List GDomino)) (hp0 : Rd A w v0_ p0) (v1_ : Value) (p1 : (GDomino → Option Bool)) (hp1 : Clo Tryd.prog w v1_ p1 .bool) (r : Int) (hr : F_slices_IndexFunc_Simpl_Domino_impl_Domino p0 p1 = some r) :
    Con Tryd.prog 44 [v0_, v1_] A w (fun x_ : Unit => .int .i64 r) (fun x_ => []) := by
  refine Con_of (v := fun (r : Int) (x_ : Unit) => .int .i64 r) (fs := fun r x_ => []) Tryd.func44 rfl Tryd.ntmps44 rfl ((SH.start hA).start_rd rfl hp0) rfl ?_ hr
  unfold F_slices_IndexFunc_Simpl_Domino_impl_Domino
  refine J_seq ?_
  refine J_region ?_
  refine JL_q (wants_none rfl) rfl (ex_assign rfl) ?_
  refine JL_nil ?_
  refine N_then ?_
  refine J_seq ?_
  refine J_seq ?_
  refine J_region ?_
  refine JL_q (wants_none rfl) rfl (ex_move rfl) ?_
  refine JL_q (wants_none rfl) rfl (ex_len_rd 0 Tryd.underlying27 rfl rfl) ?_
  refine JL_q (wants_none rfl) rfl (ex_move rfl) ?_
  refine JL_nil ?_
  refine N_then ?_
  refine J_loop' (S := Int) (G := Unit) (F_slices_IndexFunc_Simpl_Domino_impl_Domino_L1 p0 p1) (fun s1 _ => [(0, v0_), (1, v1_), (7, .int .i64 (p0.length : Int)), (8, .int .i64 s1)]) (fun s1 _ => [.rd v0_ p0]) 0 () ⟨rfl, rfl, rfl, rfl, trivial⟩ [0] rfl rfl (fun s1 g2 => ?_) (fun s1 g2 => ?_)
  · unfold F_slices_IndexFunc_Simpl_Domino_impl_Domino_L1
    refine J_seq ?_
    refine J_region ?_
    refine JL_q (wants_none rfl) rfl (ex_lss rfl rfl) ?_
    refine JL_nil ?_
    refine N_then ?_
    refine J_seq ?_
    refine J_if rfl (fun h3 => ?_) (fun h3 => ?_)
    · refine J_skip ?_
      refine N_then ?_
      refine J_seq ?_
      refine J_block ?_
      refine J_seq ?_
      refine J_region ?_
      refine JL_q (wants_none rfl) rfl (ex_move rfl) ?_
      refine JL_q (wants_none rfl) rfl (ex_assign rfl) ?_
      refine JL_nil ?_
      refine N_then ?_
      refine J_seq ?_
      refine J_region ?_
      refine JL_q (wants_none rfl) rfl (ex_move rfl) ?_
      refine JL_q (wants_none rfl) rfl (ex_move rfl) ?_
      refine JL_q (wants_none rfl) rfl (ex_move rfl) ?_
      refine JL_bnd fun y4 hy5 => ?_
      refine JL_st (wants_none rfl) rfl (st_index 0 Tryd.underlying27 ti_40 rfl rfl rfl hy5) (fun q6 => ?_)
      refine JL_st (wants_none rfl) rfl (st_load_pt_o 0 (GDomino.opens _) ti_40 rfl rfl) (fun v7 => ?_)
      refine JL_bnd fun r8 hr9 => ?_
      refine JL_clo (wants_none rfl) rfl hp1 rfl rfl (fun w hh => (GDomino.rdmk (hh.rd0 0 rfl) (hh.rd0 1 rfl))) hr9 ?_
      refine JL_nil ?_
      refine N_then ?_
      refine J_if rfl (fun h10 => ?_) (fun h10 => ?_)
      · refine J_seq ?_
        refine J_region ?_
        refine JL_q (wants_none rfl) rfl (ex_move rfl) ?_
        refine JL_q (wants_none rfl) rfl (ex_assign rfl) ?_
        refine JL_nil ?_
        refine N_then ?_
        refine J_ret ?_
        refine N_block_ret ?_
        refine N_then_ret ?_
        refine N_round_ret ?_
        refine N_then_ret ?_
        exact N_ret1 rfl (rv_tmp rfl) (fun w hh => ⟨(), rfl, hh.sel [] rfl⟩)
      · refine J_skip ?_
        refine N_block ?_
        refine N_then ?_
        refine J_region ?_
        refine JL_q (wants_none rfl) rfl (ex_add rfl rfl) ?_
        refine JL_q (wants_none rfl) rfl (ex_move rfl) ?_
        refine JL_nil ?_
        exact N_next' () ⟨rfl, rfl, rfl, rfl, trivial⟩ [3] rfl rfl
    · refine J_exit ?_
      refine N_then_exit ?_
      exact N_break' () ⟨rfl, rfl, rfl, rfl, trivial⟩ [0] rfl rfl
  · refine N_then ?_
    refine J_seq ?_
    refine J_region ?_
    refine JL_q (wants_none rfl) rfl (ex_assign rfl) ?_
    refine JL_nil ?_
    refine N_then ?_
    refine J_ret ?_
    exact N_ret1 rfl (rv_tmp rfl) (fun w hh => ⟨(), rfl, hh.sel [] rfl⟩)

set_option maxHeartbeats 40000000 in
theorem c_slices_ContainsFunc_Simpl_Domino_impl_Domino (A : Nat → Prop) (w : World) (hA : ∀ k, A k → k < w.heap.size) (v0_ : Value) (p0 : (List GDomino)) (hp0 : Rd A w v0_ p0) (v1_ : Value) (p1 : (GDomino → Option Bool)) (hp1 : Clo Tryd.prog w v1_ p1 .bool) (r : Bool) (hr : F_slices_ContainsFunc_Simpl_Domino_impl_Domino p0 p1 = some r) :
    Con Tryd.prog 33 [v0_, v1_] A w (fun x_ : Unit => .bool r) (fun x_ => []) := by
  refine Con_of (v := fun (r : Bool) (x_ : Unit) => .bool r) (fs := fun r x_ => []) Tryd.func33 rfl Tryd.ntmps33 rfl ((SH.start hA).start_rd rfl hp0) rfl ?_ hr
  unfold F_slices_ContainsFunc_Simpl_Domino_impl_Domino
  refine J_seq ?_
  refine J_region ?_
  refine JL_q (wants_none rfl) rfl (ex_assign rfl) ?_
  refine JL_nil ?_
  refine N_then ?_
  refine J_seq ?_
  refine J_region ?_
  refine JL_q (wants_none rfl) rfl (ex_move rfl) ?_
  refine JL_q (wants_none rfl) rfl (ex_move rfl) ?_
  refine JL_bnd fun r1 hr2 => ?_
  refine JL_call (wants_none rfl) rfl Tryd.call44 rfl (Ca_of0 fun w hh => c_slices_IndexFunc_Simpl_Domino_impl_Domino _ w (fun _ hk => hk.elim) _ _ (hh.rd0 0 rfl) _ _ (hp1.later hh.below) _ hr2) (fun _ => ?_)
  refine JL_q (wants_none rfl) rfl (ex_geq rfl rfl) ?_
  refine JL_q (wants_none rfl) rfl (ex_assign rfl) ?_
  refine JL_nil ?_
  refine N_then ?_
  refine J_ret ?_
  exact N_ret1 rfl (rv_tmp rfl) (fun w hh => ⟨(), rfl, hh.sel [] rfl⟩)

set_option maxHeartbeats 40000000 in
theorem c_slices_IndexFunc_SSint64_Sint64 (A : Nat → Prop) (w : World) (hA : ∀ k, A k → k < w.heap.size) (v0_ : Value) (p0 : (List (List Int))) (hp0 : Rd A w v0_ p0) (v1_ : Value) (p1 : ((List Int) → Option Bool)) (hp1 : Clo Tryd.prog w v1_ p1 .bool) (r : Int) (hr : F_slices_IndexFunc_SSint64_Sint64 p0 p1 = some r) :
    Con Tryd.prog 54 [v0_, v1_] A w (fun x_ : Unit => .int .i64 r) (fun x_ => []) := by
  refine Con_of (v := fun (r : Int) (x_ : Unit) => .int .i64 r) (fs := fun r x_ => []) Tryd.func54 rfl Tryd.ntmps54 rfl ((SH.start hA).start_rd rfl hp0) rfl ?_ hr
  unfold F_slices_IndexFunc_SSint64_Sint64
  refine J_seq ?_
  refine J_region ?_
  refine JL_q (wants_none rfl) rfl (ex_assign rfl) ?_
  refine JL_nil ?_
  refine N_then ?_
  refine J_seq ?_
  refine J_seq ?_
  refine J_region ?_
  refine JL_q (wants_none rfl) rfl (ex_move rfl) ?_
  refine JL_q (wants_none rfl) rfl (ex_len_rd 0 Tryd.underlying92 rfl rfl) ?_
  refine JL_q (wants_none rfl) rfl (ex_move rfl) ?_
  refine JL_nil ?_
  refine N_then ?_
  refine J_loop' (S := Int) (G := Unit) (F_slices_IndexFunc_SSint64_Sint64_L1 p0 p1) (fun s1 _ => [(0, v0_), (1, v1_), (7, .int .i64 (p0.length : Int)), (8, .int .i64 s1)]) (fun s1 _ => [.rd v0_ p0]) 0 () ⟨rfl, rfl, rfl, rfl, trivial⟩ [0] rfl rfl (fun s1 g2 => ?_) (fun s1 g2 => ?_)
  · unfold F_slices_IndexFunc_SSint64_Sint64_L1
    refine J_seq ?_
    refine J_region ?_
    refine JL_q (wants_none rfl) rfl (ex_lss rfl rfl) ?_
    refine JL_nil ?_
    refine N_then ?_
    refine J_seq ?_
    refine J_if rfl (fun h3 => ?_) (fun h3 => ?_)
    · refine J_skip ?_
      refine N_then ?_
      refine J_seq ?_
      refine J_block ?_
      refine J_seq ?_
      refine J_region ?_
      refine JL_q (wants_none rfl) rfl (ex_move rfl) ?_
      refine JL_q (wants_none rfl) rfl (ex_assign rfl) ?_
      refine JL_nil ?_
      refine N_then ?_
      refine J_seq ?_
      refine J_region ?_
      refine JL_q (wants_none rfl) rfl (ex_move rfl) ?_
      refine JL_q (wants_none rfl) rfl (ex_move rfl) ?_
      refine JL_q (wants_none rfl) rfl (ex_move rfl) ?_
      refine JL_bnd fun y4 hy5 => ?_
      refine JL_st (wants_none rfl) rfl (st_index 0 Tryd.underlying92 ti_24 rfl rfl rfl hy5) (fun q6 => ?_)
      refine JL_st (wants_none rfl) rfl (st_load_pt_o 0 (opens_sl _) ti_24 rfl rfl) (fun v7 => ?_)
      refine JL_bnd fun r8 hr9 => ?_
      refine JL_clo (wants_none rfl) rfl hp1 rfl rfl (fun w hh => (hh.rd0 0 rfl)) hr9 ?_
      refine JL_nil ?_
      refine N_then ?_
      refine J_if rfl (fun h10 => ?_) (fun h10 => ?_)
      · refine J_seq ?_
        refine J_region ?_
        refine JL_q (wants_none rfl) rfl (ex_move rfl) ?_
        refine JL_q (wants_none rfl) rfl (ex_assign rfl) ?_
        refine JL_nil ?_
        refine N_then ?_
        refine J_ret ?_
        refine N_block_ret ?_
        refine N_then_ret ?_
        refine N_round_ret ?_
        refine N_then_ret ?_
        exact N_ret1 rfl (rv_tmp rfl) (fun w hh => ⟨(), rfl, hh.sel [] rfl⟩)
      · refine J_skip ?_
        refine N_block ?_
        refine N_then ?_
        refine J_region ?_
        refine JL_q (wants_none rfl) rfl (ex_add rfl rfl) ?_
        refine JL_q (wants_none rfl) rfl (ex_move rfl) ?_
        refine JL_nil ?_
        exact N_next' () ⟨rfl, rfl, rfl, rfl, trivial⟩ [2] rfl rfl
    · refine J_exit ?_
      refine N_then_exit ?_
      exact N_break' () ⟨rfl, rfl, rfl, rfl, trivial⟩ [0] rfl rfl
  · refine N_then ?_
    refine J_seq ?_
    refine J_region ?_
    refine JL_q (wants_none rfl) rfl (ex_assign rfl) ?_
    refine JL_nil ?_
    refine N_then ?_
    refine J_ret ?_
    exact N_ret1 rfl (rv_tmp rfl) (fun w hh => ⟨(), rfl, hh.sel [] rfl⟩)

set_option maxHeartbeats 40000000 in
theorem c_slices_ContainsFunc_SSint64_Sint64 (A : Nat → Prop) (w : World) (hA : ∀ k, A k → k < w.heap.size) (v0_ : Value) (p0 : (List (List Int))) (hp0 : Rd A w v0_ p0) (v1_ : Value) (p1 : ((List Int) → Option Bool)) (hp1 : Clo Tryd.prog w v1_ p1 .bool) (r : Bool) (hr : F_slices_ContainsFunc_SSint64_Sint64 p0 p1 = some r) :
    Con Tryd.prog 48 [v0_, v1_] A w (fun x_ : Unit => .bool r) (fun x_ => []) := by
  refine Con_of (v := fun (r : Bool) (x_ : Unit) => .bool r) (fs := fun r x_ => []) Tryd.func48 rfl Tryd.ntmps48 rfl ((SH.start hA).start_rd rfl hp0) rfl ?_ hr
  unfold F_slices_ContainsFunc_SSint64_Sint64
  refine J_seq ?_
  refine J_region ?_
  refine JL_q (wants_none rfl) rfl (ex_assign rfl) ?_
  refine JL_nil ?_
  refine N_then ?_
  refine J_seq ?_
  refine J_region ?_
  refine JL_q (wants_none rfl) rfl (ex_move rfl) ?_
  refine JL_q (wants_none rfl) rfl (ex_move rfl) ?_
  refine JL_bnd fun r1 hr2 => ?_
  refine JL_call (wants_none rfl) rfl Tryd.call54 rfl (Ca_of0 fun w hh => c_slices_IndexFunc_SSint64_Sint64 _ w (fun _ hk => hk.elim) _ _ (hh.rd0 0 rfl) _ _ (hp1.later hh.below) _ hr2) (fun _ => ?_)
  refine JL_q (wants_none rfl) rfl (ex_geq rfl rfl) ?_
  refine JL_q (wants_none rfl) rfl (ex_assign rfl) ?_
  refine JL_nil ?_
  refine N_then ?_
  refine J_ret ?_
  exact N_ret1 rfl (rv_tmp rfl) (fun w hh => ⟨(), rfl, hh.sel [] rfl⟩)

set_option maxHeartbeats 40000000 in
theorem c_impl_allWithin (A : Nat → Prop) (w : World) (hA : ∀ k, A k → k < w.heap.size) (v0_ : Value) (p0 : (List Int)) (hp0 : Rd A w v0_ p0) (p1 : Int) (p2 : Int) (r : Bool) (hr : F_impl_allWithin p0 p1 p2 = some r) :
    Con Tryd.prog 58 [v0_, .int .i64 p1, .int .i64 p2] A w (fun x_ : Unit => .bool r) (fun x_ => []) := by
  refine Con_of (v := fun (r : Bool) (x_ : Unit) => .bool r) (fs := fun r x_ => []) Tryd.func58 rfl Tryd.ntmps58 rfl ((SH.start hA).start_rd rfl hp0) rfl ?_ hr
  unfold F_impl_allWithin
  refine J_seq ?_
  refine J_region ?_
  refine JL_q (wants_none rfl) rfl (ex_assign rfl) ?_
  refine JL_nil ?_
  refine N_then ?_
  refine J_seq ?_
  refine J_seq ?_
  refine J_region ?_
  refine JL_q (wants_none rfl) rfl (ex_move rfl) ?_
  refine JL_q (wants_none rfl) rfl (ex_len_rd 0 Tryd.underlying24 rfl rfl) ?_
  refine JL_q (wants_none rfl) rfl (ex_move rfl) ?_
  refine JL_nil ?_
  refine N_then ?_
  refine J_loop' (S := Int) (G := Unit) (F_impl_allWithin_L1 p0 p1 p2) (fun s1 _ => [(1, .int .i64 p1), (2, .int .i64 p2), (9, v0_), (10, .int .i64 (p0.length : Int)), (11, .int .i64 s1)]) (fun s1 _ => [.rd v0_ p0]) 0 () ⟨rfl, rfl, rfl, rfl, rfl, trivial⟩ [0] rfl rfl (fun s1 g2 => ?_) (fun s1 g2 => ?_)
  · unfold F_impl_allWithin_L1
    refine J_seq ?_
    refine J_region ?_
    refine JL_q (wants_none rfl) rfl (ex_lss rfl rfl) ?_
    refine JL_nil ?_
    refine N_then ?_
    refine J_seq ?_
    refine J_if rfl (fun h3 => ?_) (fun h3 => ?_)
    · refine J_skip ?_
      refine N_then ?_
      refine J_seq ?_
      refine J_block ?_
      refine J_seq ?_
      refine J_region ?_
      refine JL_bnd fun y4 hy5 => ?_
      refine JL_st (wants_none rfl) rfl (st_index 0 Tryd.underlying24 ti_2 rfl rfl rfl hy5) (fun q6 => ?_)
      refine JL_st (wants_none rfl) rfl (st_load_pt_o 0 (opens_int _) ti_2 rfl rfl) (fun _ => ?_)
      refine JL_q (wants_none rfl) rfl (ex_assign rfl) ?_
      refine JL_nil ?_
      refine N_then ?_
      refine J_seq ?_
      refine J_region ?_
      refine JL_q (wants_none rfl) rfl (ex_move rfl) ?_
      refine JL_q (wants_none rfl) rfl (ex_move rfl) ?_
      refine JL_q (wants_none rfl) rfl (ex_move rfl) ?_
      refine JL_bnd fun r8 hr9 => ?_
      refine JL_call (wants_none rfl) rfl Tryd.call21 rfl (Ca_of0 fun w hh => c_impl_within _ w (fun _ hk => hk.elim) _ _ _ _ hr9) (fun _ => ?_)
      refine JL_q (wants_none rfl) rfl (ex_not rfl) ?_
      refine JL_nil ?_
      refine N_then ?_
      refine J_if rfl (fun h10 => ?_) (fun h10 => ?_)
      · refine J_seq ?_
        refine J_region ?_
        refine JL_q (wants_none rfl) rfl (ex_assign rfl) ?_
        refine JL_nil ?_
        refine N_then ?_
        refine J_ret ?_
        refine N_block_ret ?_
        refine N_then_ret ?_
        refine N_round_ret ?_
        refine N_then_ret ?_
        exact N_ret1 rfl (rv_tmp rfl) (fun w hh => ⟨(), rfl, hh.sel [] rfl⟩)
      · refine J_skip ?_
        refine N_block ?_
        refine N_then ?_
        refine J_region ?_
        refine JL_q (wants_none rfl) rfl (ex_add rfl rfl) ?_
        refine JL_q (wants_none rfl) rfl (ex_move rfl) ?_
        refine JL_nil ?_
        exact N_next' () ⟨rfl, rfl, rfl, rfl, rfl, trivial⟩ [1] rfl rfl
    · refine J_exit ?_
      refine N_then_exit ?_
      exact N_break' () ⟨rfl, rfl, rfl, rfl, rfl, trivial⟩ [0] rfl rfl
  · refine N_then ?_
    refine J_seq ?_
    refine J_region ?_
    refine JL_q (wants_none rfl) rfl (ex_assign rfl) ?_
    refine JL_nil ?_
    refine N_then ?_
    refine J_ret ?_
    exact N_ret1 rfl (rv_tmp rfl) (fun w hh => ⟨(), rfl, hh.sel [] rfl⟩)

set_option maxHeartbeats 40000000 in
theorem c_impl_isLetters (A : Nat → Prop) (w : World) (hA : ∀ k, A k → k < w.heap.size) (v0_ : Value) (p0 : (List Int)) (hp0 : Rd A w v0_ p0) (r : Bool) (hr : F_impl_isLetters p0 = some r) :
    Con Tryd.prog 55 [v0_] A w (fun x_ : Unit => .bool r) (fun x_ => []) := by
  refine Con_of (v := fun (r : Bool) (x_ : Unit) => .bool r) (fs := fun r x_ => []) Tryd.func55 rfl Tryd.ntmps55 rfl ((SH.start hA).start_rd rfl hp0) rfl ?_ hr
  unfold F_impl_isLetters
  refine J_seq ?_
  refine J_region ?_
  refine JL_q (wants_none rfl) rfl (ex_assign rfl) ?_
  refine JL_nil ?_
  refine N_then ?_
  refine J_seq ?_
  refine J_region ?_
  refine JL_q (wants_none rfl) rfl (ex_move rfl) ?_
  refine JL_bnd fun r1 hr2 => ?_
  refine JL_call (wants_none rfl) rfl Tryd.call58 rfl (Ca_of0 fun w hh => c_impl_allWithin _ w (fun _ hk => hk.elim) _ _ (hh.rd0 0 rfl) _ _ _ hr2) (fun _ => ?_)
  refine JL_q (wants_none rfl) rfl (ex_assign rfl) ?_
  refine JL_nil ?_
  refine N_then ?_
  refine J_ret ?_
  exact N_ret1 rfl (rv_tmp rfl) (fun w hh => ⟨(), rfl, hh.sel [] rfl⟩)

set_option maxHeartbeats 40000000 in
theorem c_impl_IsWord (A : Nat → Prop) (w : World) (hA : ∀ k, A k → k < w.heap.size) (v0_ : Value) (p0 : (List Int)) (hp0 : Rd A w v0_ p0) (r : Bool) (hr : F_impl_IsWord p0 = some r) :
    Con Tryd.prog 50 [v0_] A w (fun x_ : Unit => .bool r) (fun x_ => []) := by
  refine Con_of (v := fun (r : Bool) (x_ : Unit) => .bool r) (fs := fun r x_ => []) Tryd.func50 rfl Tryd.ntmps50 rfl ((SH.start hA).start_rd rfl hp0) rfl ?_ hr
  unfold F_impl_IsWord
  refine J_seq ?_
  refine J_region ?_
  refine JL_q (wants_none rfl) rfl (ex_assign rfl) ?_
  refine JL_nil ?_
  refine N_then ?_
  refine J_seq ?_
  refine J_region ?_
  refine JL_q (wants_none rfl) rfl (ex_move rfl) ?_
  refine JL_q (wants_none rfl) rfl (ex_len_rd 0 Tryd.underlying24 rfl rfl) ?_
  refine JL_q (wants_none rfl) rfl (ex_leq rfl rfl) ?_
  refine JL_q (wants_none rfl) rfl (ex_move rfl) ?_
  refine JL_cond (fun h1 => ?_) (fun h1 => ?_)
  · refine JL_q (wants_some rfl rfl rfl h1) rfl (ex_move rfl) ?_
    refine JL_bnd fun r2 hr3 => ?_
    refine JL_call (wants_some rfl rfl rfl h1) rfl Tryd.call55 rfl (Ca_of0 fun w hh => c_impl_isLetters _ w (fun _ hk => hk.elim) _ _ (hh.rd0 0 rfl) _ hr3) (fun _ => ?_)
    refine JL_q (wants_none rfl) rfl (ex_pick_true rfl h1 rfl) ?_
    refine JL_q (wants_none rfl) rfl (ex_assign rfl) ?_
    refine JL_nil ?_
    refine N_then ?_
    refine J_ret ?_
    exact N_ret1 rfl (rv_tmp rfl) (fun w hh => ⟨(), rfl, hh.sel [] rfl⟩)
  · refine JL_passed rfl rfl rfl h1 ?_
    refine JL_passed rfl rfl rfl h1 ?_
    refine JL_q (wants_none rfl) rfl (ex_pick_false rfl h1 rfl) ?_
    refine JL_q (wants_none rfl) rfl (ex_assign rfl) ?_
    refine JL_nil ?_
    refine N_then ?_
    refine J_ret ?_
    exact N_ret1 rfl (rv_tmp rfl) (fun w hh => ⟨(), rfl, hh.sel [] rfl⟩)

end Go.Proofs.YtabpcmbohmodnaaDoor
