/-
  Each function of the program computes what its plain function says: printed by program. No condition.
-/
import Derived.Test.YtfklpjdenigohaaFn
import Derived.Test.YtfklpjdenigohaaInf
import Derived.Test.YtfklpjdenigohaaCon1
import Derived.Test.YtfklpjdenigohaaCon2
import Derived.Test.YtfklpjdenigohaaCon3
namespace Go.Proofs.Ytfklpjdenigohaa
open Go Go.Tc Go.Fn
set_option linter.unusedVariables false

set_option maxHeartbeats 4000000 in
theorem c_laws_szRewrite (A : Nat → Prop) (w : World) (hA : ∀ k, A k → k < w.heap.size) (v0_ : Value) (p0 : GRewrite) (hp0 : Rd A w v0_ p0) (p1 : Int) (r : Int) (hr : F_laws_szRewrite p0 p1 = some r) :
    Con Try.prog 86 [v0_, .int .i64 p1] A w (fun x_ : Unit => .int .i64 r) (fun x_ => []) := by
  obtain ⟨v0_0, v0_1, rfl, hp0_0, hp0_1⟩ := GRewrite.open hp0
  refine Con_of (v := fun (r : Int) (x_ : Unit) => .int .i64 r) (fs := fun r x_ => []) Try.func86 rfl Try.ntmps86 rfl (((SH.start hA).start_rd rfl hp0_0).start_rd rfl hp0_1) rfl ?_ hr
  unfold F_laws_szRewrite
  refine J_seq ?_
  refine J_region ?_
  refine JL_st (wants_none rfl) rfl (st_box' rfl (fun w hh => (cv_aggs ⟨(hh.cv 1 rfl), (hh.cv 0 rfl), trivial⟩))) (fun b1 => ?_)
  refine JL_q (wants_none rfl) rfl (ex_assign rfl) ?_
  refine JL_nil ?_
  refine N_then ?_
  refine J_seq ?_
  refine J_region ?_
  refine JL_q (wants_none rfl) rfl (ex_fieldAddr fi_105_0 rfl rfl) ?_
  refine JL_q (wants_none rfl) rfl (ex_load_bx 0 ti_31 rfl rfl rfl) ?_
  refine JL_q (wants_none rfl) rfl (ex_move rfl) ?_
  refine JL_bnd fun r2 hr3 => ?_
  refine JL_call (wants_none rfl) rfl Try.call70 rfl (Ca_of0 fun w hh => c_laws_szInt64S _ w (fun _ hk => hk.elim) _ _ (hh.rd0 2 rfl) _ _ hr3) (fun _ => ?_)
  refine JL_q (wants_none rfl) rfl (ex_assign rfl) ?_
  refine JL_nil ?_
  refine N_then ?_
  refine J_seq ?_
  refine J_seq ?_
  refine J_region ?_
  refine JL_q (wants_none rfl) rfl (ex_move rfl) ?_
  refine JL_q (wants_none rfl) rfl (ex_lss rfl rfl) ?_
  refine JL_nil ?_
  refine N_then ?_
  refine J_if rfl (fun h4 => ?_) (fun h4 => ?_)
  · refine J_seq ?_
    refine J_region ?_
    refine JL_q (wants_none rfl) rfl (ex_assign rfl) ?_
    refine JL_nil ?_
    refine N_then ?_
    refine J_ret ?_
    refine N_then_ret ?_
    exact N_ret1 rfl (rv_tmp rfl) (fun w hh => ⟨(), rfl, hh.sel [] rfl⟩)
  · refine J_skip ?_
    refine N_then ?_
    refine J_seq ?_
    refine J_region ?_
    refine JL_q (wants_none rfl) rfl (ex_fieldAddr fi_105_1 rfl rfl) ?_
    refine JL_q (wants_none rfl) rfl (ex_load_bx 0 ti_31 rfl rfl rfl) ?_
    refine JL_q (wants_none rfl) rfl (ex_move rfl) ?_
    refine JL_bnd fun r5 hr6 => ?_
    refine JL_call (wants_none rfl) rfl Try.call70 rfl (Ca_of0 fun w hh => c_laws_szInt64S _ w (fun _ hk => hk.elim) _ _ (hh.rd0 1 rfl) _ _ hr6) (fun _ => ?_)
    refine JL_q (wants_none rfl) rfl (ex_assign rfl) ?_
    refine JL_nil ?_
    refine N_then ?_
    refine J_seq ?_
    refine J_seq ?_
    refine J_region ?_
    refine JL_q (wants_none rfl) rfl (ex_move rfl) ?_
    refine JL_q (wants_none rfl) rfl (ex_lss rfl rfl) ?_
    refine JL_nil ?_
    refine N_then ?_
    refine J_if rfl (fun h7 => ?_) (fun h7 => ?_)
    · refine J_seq ?_
      refine J_region ?_
      refine JL_q (wants_none rfl) rfl (ex_assign rfl) ?_
      refine JL_nil ?_
      refine N_then ?_
      refine J_ret ?_
      refine N_then_ret ?_
      exact N_ret1 rfl (rv_tmp rfl) (fun w hh => ⟨(), rfl, hh.sel [] rfl⟩)
    · refine J_skip ?_
      refine N_then ?_
      refine J_seq ?_
      refine J_region ?_
      refine JL_q (wants_none rfl) rfl (ex_move rfl) ?_
      refine JL_q (wants_none rfl) rfl (ex_assign rfl) ?_
      refine JL_nil ?_
      refine N_then ?_
      refine J_ret ?_
      exact N_ret1 rfl (rv_tmp rfl) (fun w hh => ⟨(), rfl, hh.sel [] rfl⟩)

set_option maxHeartbeats 4000000 in
theorem c_laws_szRewriteS (A : Nat → Prop) (w : World) (hA : ∀ k, A k → k < w.heap.size) (v0_ : Value) (p0 : (List GRewrite)) (hp0 : Rd A w v0_ p0) (p1 : Int) (r : Int) (hr : F_laws_szRewriteS p0 p1 = some r) :
    Con Try.prog 34 [v0_, .int .i64 p1] A w (fun x_ : Unit => .int .i64 r) (fun x_ => []) := by
  refine Con_of (v := fun (r : Int) (x_ : Unit) => .int .i64 r) (fs := fun r x_ => []) Try.func34 rfl Try.ntmps34 rfl ((SH.start hA).start_rd rfl hp0) rfl ?_ hr
  unfold F_laws_szRewriteS
  refine J_seq ?_
  refine J_region ?_
  refine JL_q (wants_none rfl) rfl (ex_assign rfl) ?_
  refine JL_nil ?_
  refine N_then ?_
  refine J_seq ?_
  refine J_region ?_
  refine JL_q (wants_none rfl) rfl (ex_move rfl) ?_
  refine JL_q (wants_none rfl) rfl (ex_move rfl) ?_
  refine JL_q (wants_none rfl) rfl (ex_len_rd 0 Try.underlying49 rfl rfl) ?_
  refine JL_q (wants_none rfl) rfl (ex_sub rfl rfl) ?_
  refine JL_q (wants_none rfl) rfl (ex_assign rfl) ?_
  refine JL_nil ?_
  refine N_then ?_
  refine J_seq ?_
  refine J_seq ?_
  refine J_region ?_
  refine JL_q (wants_none rfl) rfl (ex_move rfl) ?_
  refine JL_q (wants_none rfl) rfl (ex_lss rfl rfl) ?_
  refine JL_nil ?_
  refine N_then ?_
  refine J_if rfl (fun h1 => ?_) (fun h1 => ?_)
  · refine J_seq ?_
    refine J_region ?_
    refine JL_q (wants_none rfl) rfl (ex_assign rfl) ?_
    refine JL_nil ?_
    refine N_then ?_
    refine J_ret ?_
    refine N_then_ret ?_
    exact N_ret1 rfl (rv_tmp rfl) (fun w hh => ⟨(), rfl, hh.sel [] rfl⟩)
  · refine J_skip ?_
    refine N_then ?_
    refine J_seq ?_
    refine J_seq ?_
    refine J_region ?_
    refine JL_q (wants_none rfl) rfl (ex_assign rfl) ?_
    refine JL_nil ?_
    refine N_then ?_
    refine J_loop' (S := Int × Int) (G := Unit) (F_laws_szRewriteS_L1 p0) (fun s2 _ => [(0, v0_), (1, .int .i64 s2.1), (5, .int .i64 s2.2)]) (fun s2 _ => [.rd v0_ p0]) ((w64 (p1 - (p0.length : Int))), 0) () ⟨rfl, rfl, rfl, trivial⟩ [0] rfl rfl (fun s2 g3 => ?_) (fun s2 g3 => ?_)
    · unfold F_laws_szRewriteS_L1
      refine J_seq ?_
      refine J_seq ?_
      refine J_region ?_
      refine JL_q (wants_none rfl) rfl (ex_move rfl) ?_
      refine JL_q (wants_none rfl) rfl (ex_move rfl) ?_
      refine JL_q (wants_none rfl) rfl (ex_len_rd 0 Try.underlying49 rfl rfl) ?_
      refine JL_q (wants_none rfl) rfl (ex_lss rfl rfl) ?_
      refine JL_nil ?_
      refine N_then ?_
      refine J_if rfl (fun h4 => ?_) (fun h4 => ?_)
      · refine J_skip ?_
        refine N_then ?_
        refine J_seq ?_
        refine J_block ?_
        refine J_seq ?_
        refine J_region ?_
        refine JL_q (wants_none rfl) rfl (ex_move rfl) ?_
        refine JL_q (wants_none rfl) rfl (ex_move rfl) ?_
        refine JL_bnd fun y5 hy6 => ?_
        refine JL_st (wants_none rfl) rfl (st_index 0 Try.underlying49 ti_105 rfl rfl rfl hy6) (fun q7 => ?_)
        refine JL_st (wants_none rfl) rfl (st_load_pt_o 0 (GRewrite.opens _) ti_105 rfl rfl) (fun v8 => ?_)
        refine JL_q (wants_none rfl) rfl (ex_move rfl) ?_
        refine JL_bnd fun r9 hr10 => ?_
        refine JL_call (wants_none rfl) rfl Try.call86 rfl (Ca_of0 fun w hh => c_laws_szRewrite _ w (fun _ hk => hk.elim) _ _ (GRewrite.rdmk (hh.rd0 0 rfl) (hh.rd0 1 rfl)) _ _ hr10) (fun _ => ?_)
        refine JL_q (wants_none rfl) rfl (ex_assign rfl) ?_
        refine JL_nil ?_
        refine N_then ?_
        refine J_seq ?_
        refine J_region ?_
        refine JL_q (wants_none rfl) rfl (ex_move rfl) ?_
        refine JL_q (wants_none rfl) rfl (ex_lss rfl rfl) ?_
        refine JL_nil ?_
        refine N_then ?_
        refine J_if rfl (fun h11 => ?_) (fun h11 => ?_)
        · refine J_seq ?_
          refine J_region ?_
          refine JL_q (wants_none rfl) rfl (ex_assign rfl) ?_
          refine JL_nil ?_
          refine N_then ?_
          refine J_ret ?_
          refine N_block_ret ?_
          refine N_then_ret ?_
          refine N_round_ret ?_
          refine N_then_ret ?_
          exact N_ret1 rfl (rv_tmp rfl) (fun w hh => ⟨(), rfl, hh.sel [] rfl⟩)
        · refine J_skip ?_
          refine N_block ?_
          refine N_then ?_
          refine J_region ?_
          refine JL_q (wants_none rfl) rfl (ex_move rfl) ?_
          refine JL_q (wants_none rfl) rfl (ex_add rfl rfl) ?_
          refine JL_q (wants_none rfl) rfl (ex_assign rfl) ?_
          refine JL_nil ?_
          exact N_next' () ⟨rfl, rfl, rfl, trivial⟩ [3] rfl rfl
      · refine J_exit ?_
        refine N_then_exit ?_
        exact N_break' () ⟨rfl, rfl, rfl, trivial⟩ [0] rfl rfl
    · refine N_then ?_
      refine J_seq ?_
      refine J_region ?_
      refine JL_q (wants_none rfl) rfl (ex_move rfl) ?_
      refine JL_q (wants_none rfl) rfl (ex_assign rfl) ?_
      refine JL_nil ?_
      refine N_then ?_
      refine J_ret ?_
      exact N_ret1 rfl (rv_tmp rfl) (fun w hh => ⟨(), rfl, hh.sel [] rfl⟩)

set_option maxHeartbeats 4000000 in
theorem c_laws_toRewrite (A : Nat → Prop) (w : World) (hA : ∀ k, A k → k < w.heap.size) (v0_ : Value) (p0 : GRewrite) (hp0 : Rd A w v0_ p0) (r : GRewrite) (hr : F_laws_toRewrite p0 = some r) :
    Con Try.prog 89 [v0_] A w (fun x_ : Value × Value => .agg #[x_.1, x_.2]) (fun x_ => [.ow 2 x_.1 r.From, .ow 2 x_.2 r.To]) := by
  obtain ⟨v0_0, v0_1, rfl, hp0_0, hp0_1⟩ := GRewrite.open hp0
  refine Con_of (v := fun (r : GRewrite) (x_ : Value × Value) => .agg #[x_.1, x_.2]) (fs := fun r x_ => [.ow 2 x_.1 r.From, .ow 2 x_.2 r.To]) Try.func89 rfl Try.ntmps89 rfl (((SH.start hA).start_rd rfl hp0_0).start_rd rfl hp0_1) rfl ?_ hr
  unfold F_laws_toRewrite
  refine J_seq ?_
  refine J_region ?_
  refine JL_st (wants_none rfl) rfl (st_box' rfl (fun w hh => (cv_aggs ⟨(hh.cv 1 rfl), (hh.cv 0 rfl), trivial⟩))) (fun b1 => ?_)
  refine JL_st (wants_none rfl) rfl (st_alloc zi_107 rfl) (fun b2 => ?_)
  refine JL_nil ?_
  refine N_then ?_
  refine J_seq ?_
  refine J_region ?_
  refine JL_st (wants_none rfl) rfl (st_alloc zi_107 rfl) (fun b3 => ?_)
  refine JL_nil ?_
  refine N_then ?_
  refine J_seq ?_
  refine J_region ?_
  refine JL_q (wants_none rfl) rfl (ex_fieldAddr fi_105_0 rfl rfl) ?_
  refine JL_q (wants_none rfl) rfl (ex_load_bx 2 ti_31 rfl rfl rfl) ?_
  refine JL_bnd fun r4 hr5 => ?_
  refine JL_call (wants_none rfl) rfl Try.call25 rfl (Ca_self (fun _ => rfl) fun w hh => c_laws_toInt64S _ w (fun _ hk => hk.elim) _ _ (hh.rd0 4 rfl) _ hr5) (fun x6 => ?_)
  refine JL_q (wants_none rfl) rfl (ex_fieldAddr fi_107_0 rfl rfl) ?_
  refine JL_sk (wants_none rfl) (sk_store_bx' 1 ti_31 rfl rfl (fun w hh => (hh.cv_ow 0 rfl)) rfl rfl rfl rfl) ?_
  refine JL_nil ?_
  refine N_then ?_
  refine J_seq ?_
  refine J_region ?_
  refine JL_q (wants_none rfl) rfl (ex_fieldAddr fi_105_1 rfl rfl) ?_
  refine JL_q (wants_none rfl) rfl (ex_load_bx 3 ti_31 rfl rfl rfl) ?_
  refine JL_bnd fun r7 hr8 => ?_
  refine JL_call (wants_none rfl) rfl Try.call25 rfl (Ca_self (fun _ => rfl) fun w hh => c_laws_toInt64S _ w (fun _ hk => hk.elim) _ _ (hh.rd0 4 rfl) _ hr8) (fun x9 => ?_)
  refine JL_q (wants_none rfl) rfl (ex_fieldAddr fi_107_1 rfl rfl) ?_
  refine JL_sk (wants_none rfl) (sk_store_bx' 2 ti_31 rfl rfl (fun w hh => (hh.cv_ow 0 rfl)) rfl rfl rfl rfl) ?_
  refine JL_nil ?_
  refine N_then ?_
  refine J_seq ?_
  refine J_region ?_
  refine JL_q (wants_none rfl) rfl (ex_load_bx_agg 2 ti_107 rfl rfl rfl rfl) ?_
  refine JL_sk (wants_none rfl) (sk_store_bx' 3 ti_107 rfl rfl (fun w hh => (cv_aggs ⟨(hh.cv_ow 1 rfl), (hh.cv_ow 0 rfl), trivial⟩)) rfl rfl rfl rfl) ?_
  refine JL_nil ?_
  refine N_then ?_
  refine J_ret ?_
  exact N_ret1 rfl (rv_cell 3 rfl rfl ti_107 rfl) (fun w hh => ⟨(x6, x9), rfl, hh.sel [1, 0] rfl⟩)

set_option maxHeartbeats 4000000 in
theorem c_laws_toRewriteS (A : Nat → Prop) (w : World) (hA : ∀ k, A k → k < w.heap.size) (v0_ : Value) (p0 : (List GRewrite)) (hp0 : Rd A w v0_ p0) (r : (List GRewrite)) (hr : F_laws_toRewriteS p0 = some r) :
    Con Try.prog 36 [v0_] A w (fun x_ : Value × List Nat => x_.1) (fun x_ => [.od 107 x_.1 r x_.2]) := by
  refine Con_of (v := fun (r : (List GRewrite)) (x_ : Value × List Nat) => x_.1) (fs := fun r x_ => [.od 107 x_.1 r x_.2]) Try.func36 rfl Try.ntmps36 rfl ((SH.start hA).start_rd rfl hp0) rfl ?_ hr
  unfold F_laws_toRewriteS
  refine J_seq ?_
  refine J_region ?_
  refine JL_q (wants_none rfl) rfl (ex_assign rfl) ?_
  refine JL_nil ?_
  refine N_then ?_
  refine J_seq ?_
  refine J_region ?_
  refine JL_q (wants_none rfl) rfl (ex_move rfl) ?_
  refine JL_q (wants_none rfl) rfl (ex_len_rd 0 Try.underlying49 rfl rfl) ?_
  refine JL_bnd fun z1 hz2 => ?_
  refine JL_st (wants_none rfl) rfl (st_make (α := GRewrite) Try.underlying54 ti_107 zi_107 bi_107 rfl (fun _ _ => GRewrite.zero) rfl hz2) (fun b3 => ?_)
  refine JL_ctx (fun w hh => hh.ow_od 0 rfl (mke_nb hz2 (GRewrite.nb nb_nil nb_nil))) ?_
  refine JL_q (wants_none rfl) rfl (ex_assign rfl) ?_
  refine JL_nil ?_
  refine N_then ?_
  refine J_seq ?_
  refine J_seq ?_
  refine J_region ?_
  refine JL_q (wants_none rfl) rfl (ex_assign rfl) ?_
  refine JL_nil ?_
  refine N_then ?_
  refine J_loop' (S := (List GRewrite) × Int) (G := List Nat) (F_laws_toRewriteS_L1 p0) (fun s4 g5 => [(0, v0_), (3, (.slice (some ⟨b3, 0, none⟩) z1.length z1.length)), (4, .int .i64 s4.2)]) (fun s4 g5 => [.rd v0_ p0, .od 107 (.slice (some ⟨b3, 0, none⟩) z1.length z1.length) s4.1 g5]) (z1, 0) ([] : List Nat) ⟨rfl, rfl, rfl, trivial⟩ [1, 0] rfl rfl (fun s4 g5 => ?_) (fun s4 g5 => ?_)
  · unfold F_laws_toRewriteS_L1
    refine J_seq ?_
    refine J_seq ?_
    refine J_region ?_
    refine JL_q (wants_none rfl) rfl (ex_move rfl) ?_
    refine JL_q (wants_none rfl) rfl (ex_move rfl) ?_
    refine JL_q (wants_none rfl) rfl (ex_len_rd 0 Try.underlying49 rfl rfl) ?_
    refine JL_q (wants_none rfl) rfl (ex_lss rfl rfl) ?_
    refine JL_nil ?_
    refine N_then ?_
    refine J_if rfl (fun h6 => ?_) (fun h6 => ?_)
    · refine J_skip ?_
      refine N_then ?_
      refine J_seq ?_
      refine J_block ?_
      refine J_region ?_
      refine JL_q (wants_none rfl) rfl (ex_move rfl) ?_
      refine JL_q (wants_none rfl) rfl (ex_move rfl) ?_
      refine JL_q (wants_none rfl) rfl (ex_move rfl) ?_
      refine JL_q (wants_none rfl) rfl (ex_move rfl) ?_
      refine JL_bnd fun y7 hy8 => ?_
      refine JL_st (wants_none rfl) rfl (st_index 0 Try.underlying49 ti_105 rfl rfl rfl hy8) (fun q9 => ?_)
      refine JL_st (wants_none rfl) rfl (st_load_pt_o 0 (GRewrite.opens _) ti_105 rfl rfl) (fun v10 => ?_)
      refine JL_bnd fun r11 hr12 => ?_
      refine JL_call (wants_none rfl) rfl Try.call89 rfl (Ca_self (fun _ => rfl) fun w hh => c_laws_toRewrite _ w (fun _ hk => hk.elim) _ _ (GRewrite.rdmk (hh.rd0 0 rfl) (hh.rd0 1 rfl)) _ hr12) (fun x13 => ?_)
      obtain ⟨x13_0, x13_1⟩ := x13
      refine JL_bnd fun y14 hy15 => ?_
      refine JL_q (wants_none rfl) rfl (ex_od 6 rfl (ex_index_ow 6 Try.underlying54 ti_107 rfl rfl rfl hy15)) ?_
      refine JL_ctx (fun w hh => hh.tokf 0 rfl rfl) ?_
      refine JL_ctx (fun w hh => hh.tokf 2 rfl rfl) ?_
      refine JL_sk (wants_none rfl) (sk_store_od (B2 := (((x13_0 : Value).ownBlock.toList ++ []) ++ (((x13_1 : Value).ownBlock.toList ++ []) ++ []))) 8 [1, 0] ti_107 rfl rfl rfl hy15 rfl rfl (fun w hh => (GRewrite.dw (hh.dw 1 rfl) (hh.dw 0 rfl)))) ?_
      refine JL_nil ?_
      refine N_block ?_
      refine N_then ?_
      refine J_region ?_
      refine JL_q (wants_none rfl) rfl (ex_move rfl) ?_
      refine JL_q (wants_none rfl) rfl (ex_add rfl rfl) ?_
      refine JL_q (wants_none rfl) rfl (ex_assign rfl) ?_
      refine JL_nil ?_
      exact N_next' (g5 ++ (((x13_0 : Value).ownBlock.toList ++ []) ++ (((x13_1 : Value).ownBlock.toList ++ []) ++ []))) ⟨rfl, rfl, rfl, trivial⟩ [7, 8] rfl rfl
    · refine J_exit ?_
      refine N_then_exit ?_
      exact N_break' g5 ⟨rfl, rfl, rfl, trivial⟩ [0, 1] rfl rfl
  · refine N_then ?_
    refine J_seq ?_
    refine J_region ?_
    refine JL_q (wants_none rfl) rfl (ex_move rfl) ?_
    refine JL_q (wants_none rfl) rfl (ex_assign rfl) ?_
    refine JL_nil ?_
    refine N_then ?_
    refine J_ret ?_
    exact N_ret1 rfl (rv_tmp rfl) (fun w hh => ⟨((.slice (some ⟨b3, 0, none⟩) z1.length z1.length), g5), rfl, hh.sel [1] rfl⟩)

set_option maxHeartbeats 4000000 in
theorem c_spec_l32Ready (A : Nat → Prop) (w : World) (hA : ∀ k, A k → k < w.heap.size) (v0_ : Value) (p0 : (List GRewrite)) (hp0 : Rd A w v0_ p0) (v1_ : Value) (p1 : (List Int)) (hp1 : Rd A w v1_ p1) (v2_ : Value) (p2 : (List Int)) (hp2 : Rd A w v2_ p2) (r : Bool) (hr : F_spec_l32Ready p0 p1 p2 = some r) :
    Con Try.prog 87 [v0_, v1_, v2_] A w (fun x_ : Unit => .bool r) (fun x_ => []) := by
  refine Con_of (v := fun (r : Bool) (x_ : Unit) => .bool r) (fs := fun r x_ => []) Try.func87 rfl Try.ntmps87 rfl ((((SH.start hA).start_rd rfl hp0).start_rd rfl hp1).start_rd rfl hp2) rfl ?_ hr
  unfold F_spec_l32Ready
  refine J_seq ?_
  refine J_region ?_
  refine JL_q (wants_none rfl) rfl (ex_assign rfl) ?_
  refine JL_nil ?_
  refine N_then ?_
  refine J_seq ?_
  refine J_region ?_
  refine JL_q (wants_none rfl) rfl (ex_move rfl) ?_
  refine JL_bnd fun r1 hr2 => ?_
  refine JL_call (wants_none rfl) rfl Try.call157 rfl (Ca_of0 fun w hh => c_spec_l10Is _ w (fun _ hk => hk.elim) _ _ (hh.rd0 2 rfl) _ hr2) (fun _ => ?_)
  refine JL_q (wants_none rfl) rfl (ex_move rfl) ?_
  refine JL_cond (fun h3 => ?_) (fun h3 => ?_)
  · refine JL_q (wants_some rfl rfl rfl h3) rfl (ex_move rfl) ?_
    refine JL_bnd fun r4 hr5 => ?_
    refine JL_call (wants_some rfl rfl rfl h3) rfl Try.call158 rfl (Ca_of0 fun w hh => c_spec_l03Is _ w (fun _ hk => hk.elim) _ _ (hh.rd0 1 rfl) _ hr5) (fun _ => ?_)
    refine JL_q (wants_none rfl) rfl (ex_pick_true rfl h3 rfl) ?_
    refine JL_q (wants_none rfl) rfl (ex_move rfl) ?_
    refine JL_cond (fun h6 => ?_) (fun h6 => ?_)
    · refine JL_q (wants_some rfl rfl rfl h6) rfl (ex_move rfl) ?_
      refine JL_bnd fun r7 hr8 => ?_
      refine JL_call (wants_some rfl rfl rfl h6) rfl Try.call158 rfl (Ca_of0 fun w hh => c_spec_l03Is _ w (fun _ hk => hk.elim) _ _ (hh.rd0 0 rfl) _ hr8) (fun _ => ?_)
      refine JL_q (wants_none rfl) rfl (ex_pick_true rfl h6 rfl) ?_
      refine JL_q (wants_none rfl) rfl (ex_assign rfl) ?_
      refine JL_nil ?_
      refine N_then ?_
      refine J_ret ?_
      exact N_ret1 rfl (rv_tmp rfl) (fun w hh => ⟨(), rfl, hh.sel [] rfl⟩)
    · refine JL_passed rfl rfl rfl h6 ?_
      refine JL_passed rfl rfl rfl h6 ?_
      refine JL_q (wants_none rfl) rfl (ex_pick_false rfl h6 rfl) ?_
      refine JL_q (wants_none rfl) rfl (ex_assign rfl) ?_
      refine JL_nil ?_
      refine N_then ?_
      refine J_ret ?_
      exact N_ret1 rfl (rv_tmp rfl) (fun w hh => ⟨(), rfl, hh.sel [] rfl⟩)
  · refine JL_passed rfl rfl rfl h3 ?_
    refine JL_passed rfl rfl rfl h3 ?_
    refine JL_q (wants_none rfl) rfl (ex_pick_false rfl h3 rfl) ?_
    refine JL_q (wants_none rfl) rfl (ex_move rfl) ?_
    refine JL_passed rfl rfl rfl rfl ?_
    refine JL_passed rfl rfl rfl rfl ?_
    refine JL_q (wants_none rfl) rfl (ex_pick_false rfl rfl rfl) ?_
    refine JL_q (wants_none rfl) rfl (ex_assign rfl) ?_
    refine JL_nil ?_
    refine N_then ?_
    refine J_ret ?_
    exact N_ret1 rfl (rv_tmp rfl) (fun w hh => ⟨(), rfl, hh.sel [] rfl⟩)

set_option maxHeartbeats 4000000 in
theorem c_spec_l32Rules (A : Nat → Prop) (w : World) (hA : ∀ k, A k → k < w.heap.size) (v0_ : Value) (p0 : (List GRewrite)) (hp0 : Rd A w v0_ p0) (v1_ : Value) (p1 : (List Int)) (hp1 : Rd A w v1_ p1) (v2_ : Value) (p2 : (List Int)) (hp2 : Rd A w v2_ p2) (r : (List GDomino) × Int) (hr : F_spec_l32Rules p0 p1 p2 = some r) :
    Con Try.prog 88 [v0_, v1_, v2_] A w (fun x_ : Value × List Nat => .tuple #[x_.1, .int .i64 r.2]) (fun x_ => [.od 113 x_.1 r.1 x_.2]) := by
  refine Con_of (v := fun (r : (List GDomino) × Int) (x_ : Value × List Nat) => .tuple #[x_.1, .int .i64 r.2]) (fs := fun r x_ => [.od 113 x_.1 r.1 x_.2]) Try.func88 rfl Try.ntmps88 rfl ((((SH.start hA).start_rd rfl hp0).start_rd rfl hp1).start_rd rfl hp2) rfl ?_ hr
  unfold F_spec_l32Rules
  refine J_seq ?_
  refine J_region ?_
  refine JL_q (wants_none rfl) rfl (ex_assign rfl) ?_
  refine JL_q (wants_none rfl) rfl (ex_assign rfl) ?_
  refine JL_nil ?_
  refine N_then ?_
  refine J_seq ?_
  refine J_region ?_
  refine JL_st (wants_none rfl) rfl (st_buildSlice (vs := [.int .i64 6]) ([6] : List Int) Try.underlying31 ti_2 zi_2 rfl rfl rfl (fun w hh => ⟨(Rd.mk_int _ _ _), trivial⟩)) (fun b1 => ?_)
  refine JL_st (wants_none rfl) rfl (st_buildSlice (vs := [.int .i64 6]) ([6] : List Int) Try.underlying31 ti_2 zi_2 rfl rfl rfl (fun w hh => ⟨(Rd.mk_int _ _ _), trivial⟩)) (fun b2 => ?_)
  refine JL_q (wants_none rfl) rfl (ex_move rfl) ?_
  refine JL_bnd fun z3 hz4 => ?_
  refine JL_st (wants_none rfl) rfl (st_append 0 Try.underlying31 ti_2 zi_2 rfl bi_2 rfl rfl rfl rfl (fun w hh => hh.src_rd 3 rfl) hz4) (fun v5 => ?_)
  refine JL_st (wants_none rfl) rfl (st_buildSlice (vs := [.int .i64 6]) ([6] : List Int) Try.underlying31 ti_2 zi_2 rfl rfl rfl (fun w hh => ⟨(Rd.mk_int _ _ _), trivial⟩)) (fun b6 => ?_)
  refine JL_bnd fun z7 hz8 => ?_
  refine JL_st (wants_none rfl) rfl (st_append 1 Try.underlying31 ti_2 zi_2 rfl bi_2 rfl rfl rfl rfl (fun w hh => hh.src_ow 0 rfl) hz8) (fun v9 => ?_)
  refine JL_q (wants_none rfl) rfl (ex_build si_113 rfl (.cons fi_113_0 rfl rfl (.cons fi_113_1 rfl rfl .nil)) (fun w hh => ⟨(hh.cv_ow 2 rfl), (hh.cv_ow 1 rfl), trivial⟩)) ?_
  refine JL_ctx (fun w hh => hh.tokf 2 rfl rfl) ?_
  refine JL_ctx (fun w hh => hh.tokf 2 rfl rfl) ?_
  refine JL_st (wants_none rfl) rfl (st_buildSlice_od (vs := [.agg #[(.slice (some ⟨b1, 0, none⟩) 1 1), v9]]) (B := ((((.slice (some ⟨b1, 0, none⟩) 1 1) : Value).ownBlock.toList ++ []) ++ (((v9 : Value).ownBlock.toList ++ []) ++ []))) ([(⟨([6] : List Int), z7⟩ : GDomino)] : List GDomino) [1, 0] Try.underlying51 ti_113 zi_113 rfl rfl rfl rfl rfl (fun w hh => (dwv_cons (GDomino.dw (hh.dw 1 rfl) (hh.dw 0 rfl)) dwv_nil))) (fun b10 => ?_)
  refine JL_q (wants_none rfl) rfl (ex_assign rfl) ?_
  refine JL_nil ?_
  refine N_then ?_
  refine J_seq ?_
  refine J_seq ?_
  refine J_region ?_
  refine JL_q (wants_none rfl) rfl (ex_assign rfl) ?_
  refine JL_nil ?_
  refine N_then ?_
  refine J_loop' (S := (List GDomino) × Int) (G := Value × List Nat) (F_spec_l32Rules_L1) (fun s11 g12 => [(0, v0_), (1, v1_), (2, v2_), (8, g12.1), (9, .int .i64 s11.2)]) (fun s11 g12 => [.rd v0_ p0, .rd v1_ p1, .rd v2_ p2, .od 113 g12.1 s11.1 g12.2]) (([(⟨([6] : List Int), z7⟩ : GDomino)] : List GDomino), 0) ((.slice (some ⟨b10, 0, none⟩) 1 1), ((((.slice (some ⟨b1, 0, none⟩) 1 1) : Value).ownBlock.toList ++ []) ++ (((v9 : Value).ownBlock.toList ++ []) ++ []))) ⟨rfl, rfl, rfl, rfl, rfl, trivial⟩ [8, 7, 6, 0] rfl rfl (fun s11 g12 => ?_) (fun s11 g12 => ?_)
  · obtain ⟨g12_0, g12_1⟩ := g12
    unfold F_spec_l32Rules_L1
    refine J_seq ?_
    refine J_seq ?_
    refine J_region ?_
    refine JL_q (wants_none rfl) rfl (ex_move rfl) ?_
    refine JL_q (wants_none rfl) rfl (ex_leq rfl rfl) ?_
    refine JL_nil ?_
    refine N_then ?_
    refine J_if rfl (fun h13 => ?_) (fun h13 => ?_)
    · refine J_skip ?_
      refine N_then ?_
      refine J_seq ?_
      refine J_block ?_
      refine J_region ?_
      refine JL_q (wants_none rfl) rfl (ex_move rfl) ?_
      refine JL_q (wants_none rfl) rfl (ex_move rfl) ?_
      refine JL_st (wants_none rfl) rfl (st_buildSlice (vs := [.int .i64 s11.2]) ([s11.2] : List Int) Try.underlying31 ti_2 zi_2 rfl rfl rfl (fun w hh => ⟨(Rd.mk_int _ _ _), trivial⟩)) (fun b14 => ?_)
      refine JL_q (wants_none rfl) rfl (ex_move rfl) ?_
      refine JL_st (wants_none rfl) rfl (st_buildSlice (vs := [.int .i64 s11.2]) ([s11.2] : List Int) Try.underlying31 ti_2 zi_2 rfl rfl rfl (fun w hh => ⟨(Rd.mk_int _ _ _), trivial⟩)) (fun b15 => ?_)
      refine JL_q (wants_none rfl) rfl (ex_build si_113 rfl (.cons fi_113_0 rfl rfl (.cons fi_113_1 rfl rfl .nil)) (fun w hh => ⟨(hh.cv_ow 1 rfl), (hh.cv_ow 0 rfl), trivial⟩)) ?_
      refine JL_ctx (fun w hh => hh.tokf 1 rfl rfl) ?_
      refine JL_ctx (fun w hh => hh.tokf 1 rfl rfl) ?_
      refine JL_st (wants_none rfl) rfl (st_buildSlice_od (vs := [.agg #[(.slice (some ⟨b14, 0, none⟩) 1 1), (.slice (some ⟨b15, 0, none⟩) 1 1)]]) (B := ((((.slice (some ⟨b14, 0, none⟩) 1 1) : Value).ownBlock.toList ++ []) ++ ((((.slice (some ⟨b15, 0, none⟩) 1 1) : Value).ownBlock.toList ++ []) ++ []))) ([(⟨([s11.2] : List Int), ([s11.2] : List Int)⟩ : GDomino)] : List GDomino) [1, 0] Try.underlying51 ti_113 zi_113 rfl rfl rfl rfl rfl (fun w hh => (dwv_cons (GDomino.dw (hh.dw 1 rfl) (hh.dw 0 rfl)) dwv_nil))) (fun b16 => ?_)
      refine JL_bnd fun z17 hz18 => ?_
      refine JL_st (wants_none rfl) rfl (st_append_od 8 0 Try.underlying51 ti_113 zi_113 rfl bi_113 rfl rfl rfl rfl rfl rfl hz18) (fun v19 => ?_)
      refine JL_q (wants_none rfl) rfl (ex_assign rfl) ?_
      refine JL_nil ?_
      refine N_block ?_
      refine N_then ?_
      refine J_region ?_
      refine JL_q (wants_none rfl) rfl (ex_move rfl) ?_
      refine JL_q (wants_none rfl) rfl (ex_add rfl rfl) ?_
      refine JL_q (wants_none rfl) rfl (ex_assign rfl) ?_
      refine JL_nil ?_
      exact N_next' (v19, (g12_1 ++ ((((.slice (some ⟨b14, 0, none⟩) 1 1) : Value).ownBlock.toList ++ []) ++ ((((.slice (some ⟨b15, 0, none⟩) 1 1) : Value).ownBlock.toList ++ []) ++ [])))) ⟨rfl, rfl, rfl, rfl, rfl, trivial⟩ [5, 6, 7, 8] rfl rfl
    · refine J_exit ?_
      refine N_then_exit ?_
      exact N_break' (g12_0, g12_1) ⟨rfl, rfl, rfl, rfl, rfl, trivial⟩ [0, 1, 2, 3] rfl rfl
  · obtain ⟨g12_0, g12_1⟩ := g12
    refine N_then ?_
    refine J_seq ?_
    refine J_region ?_
    refine JL_q (wants_none rfl) rfl (ex_move rfl) ?_
    refine JL_st (wants_none rfl) rfl (st_buildSlice (vs := [.int .i64 6]) ([6] : List Int) Try.underlying31 ti_2 zi_2 rfl rfl rfl (fun w hh => ⟨(Rd.mk_int _ _ _), trivial⟩)) (fun b20 => ?_)
    refine JL_st (wants_none rfl) rfl (st_buildSlice (vs := [.int .i64 6]) ([6] : List Int) Try.underlying31 ti_2 zi_2 rfl rfl rfl (fun w hh => ⟨(Rd.mk_int _ _ _), trivial⟩)) (fun b21 => ?_)
    refine JL_q (wants_none rfl) rfl (ex_build si_113 rfl (.cons fi_113_0 rfl rfl (.cons fi_113_1 rfl rfl .nil)) (fun w hh => ⟨(hh.cv_ow 1 rfl), (hh.cv_ow 0 rfl), trivial⟩)) ?_
    refine JL_ctx (fun w hh => hh.tokf 1 rfl rfl) ?_
    refine JL_ctx (fun w hh => hh.tokf 1 rfl rfl) ?_
    refine JL_st (wants_none rfl) rfl (st_buildSlice_od (vs := [.agg #[(.slice (some ⟨b20, 0, none⟩) 1 1), (.slice (some ⟨b21, 0, none⟩) 1 1)]]) (B := ((((.slice (some ⟨b20, 0, none⟩) 1 1) : Value).ownBlock.toList ++ []) ++ ((((.slice (some ⟨b21, 0, none⟩) 1 1) : Value).ownBlock.toList ++ []) ++ []))) ([(⟨([6] : List Int), ([6] : List Int)⟩ : GDomino)] : List GDomino) [1, 0] Try.underlying51 ti_113 zi_113 rfl rfl rfl rfl rfl (fun w hh => (dwv_cons (GDomino.dw (hh.dw 1 rfl) (hh.dw 0 rfl)) dwv_nil))) (fun b22 => ?_)
    refine JL_bnd fun z23 hz24 => ?_
    refine JL_st (wants_none rfl) rfl (st_append_od 8 0 Try.underlying51 ti_113 zi_113 rfl bi_113 rfl rfl rfl rfl rfl rfl hz24) (fun v25 => ?_)
    refine JL_q (wants_none rfl) rfl (ex_assign rfl) ?_
    refine JL_nil ?_
    refine N_then ?_
    refine J_seq ?_
    refine J_seq ?_
    refine J_region ?_
    refine JL_q (wants_none rfl) rfl (ex_assign rfl) ?_
    refine JL_nil ?_
    refine N_then ?_
    refine J_loop' (S := (List GDomino) × Int) (G := Value × List Nat) (F_spec_l32Rules_L2 p0) (fun s26 g27 => [(0, v0_), (1, v1_), (2, v2_), (8, g27.1), (10, .int .i64 s26.2)]) (fun s26 g27 => [.rd v0_ p0, .rd v1_ p1, .rd v2_ p2, .od 113 g27.1 s26.1 g27.2]) (z23, 0) (v25, (g12_1 ++ ((((.slice (some ⟨b20, 0, none⟩) 1 1) : Value).ownBlock.toList ++ []) ++ ((((.slice (some ⟨b21, 0, none⟩) 1 1) : Value).ownBlock.toList ++ []) ++ [])))) ⟨rfl, rfl, rfl, rfl, rfl, trivial⟩ [5, 6, 7, 8] rfl rfl (fun s26 g27 => ?_) (fun s26 g27 => ?_)
    · obtain ⟨g27_0, g27_1⟩ := g27
      unfold F_spec_l32Rules_L2
      refine J_seq ?_
      refine J_seq ?_
      refine J_region ?_
      refine JL_q (wants_none rfl) rfl (ex_move rfl) ?_
      refine JL_q (wants_none rfl) rfl (ex_move rfl) ?_
      refine JL_q (wants_none rfl) rfl (ex_len_rd 0 Try.underlying54 rfl rfl) ?_
      refine JL_q (wants_none rfl) rfl (ex_lss rfl rfl) ?_
      refine JL_nil ?_
      refine N_then ?_
      refine J_if rfl (fun h28 => ?_) (fun h28 => ?_)
      · refine J_skip ?_
        refine N_then ?_
        refine J_seq ?_
        refine J_block ?_
        refine J_draw [3] (by kernel_rfl) ?_
        refine JP_take (i := 0) [0, 1, 2] [3] rfl (by kernel_rfl) (by kernel_rfl) (by kernel_rfl) rfl rfl (wants_none rfl) rfl (ex_move rfl) ?_
        refine JP_take (i := 1) [0, 1, 2] [3] rfl (by kernel_rfl) (by kernel_rfl) (by kernel_rfl) rfl rfl (wants_none rfl) rfl (ex_move rfl) ?_
        refine JP_take (i := 2) [0, 1, 2] [3] rfl (by kernel_rfl) (by kernel_rfl) (by kernel_rfl) rfl rfl (wants_none rfl) rfl (ex_move rfl) ?_
        refine JP_bnd fun y29 hy30 => ?_
        refine JP_sq (i := 3) [3] rfl (by kernel_rfl) (by kernel_rfl) (by kernel_rfl) rfl (wants_none rfl) rfl (sq_index 0 Try.underlying54 ti_107 rfl rfl rfl hy30) (fun q31 => ?_)
        refine JP_sq (i := 4) [4] rfl (by kernel_rfl) (by kernel_rfl) (by kernel_rfl) rfl (wants_none rfl) rfl (sq_field_pt 0 (GRewrite.at_From _) fi_107_0 rfl rfl rfl) (fun q32 => ?_)
        refine JP_sq (i := 5) [5] rfl (by kernel_rfl) (by kernel_rfl) (by kernel_rfl) rfl (wants_none rfl) rfl (sq_load_pt_o 0 (opens_sl _) ti_31 rfl rfl) (fun v33 => ?_)
        refine JP_take (i := 7) [0, 1, 2, 3, 4, 5] [6] rfl (by kernel_rfl) (by kernel_rfl) (by kernel_rfl) rfl rfl (wants_none rfl) rfl (ex_move rfl) ?_
        refine JP_take (i := 8) [0, 1, 2, 3, 4, 5] [6] rfl (by kernel_rfl) (by kernel_rfl) (by kernel_rfl) rfl rfl (wants_none rfl) rfl (ex_move rfl) ?_
        refine JP_bnd fun y34 hy35 => ?_
        refine JP_sq (i := 9) [6] rfl (by kernel_rfl) (by kernel_rfl) (by kernel_rfl) rfl (wants_none rfl) rfl (sq_index 3 Try.underlying54 ti_107 rfl rfl rfl hy35) (fun q36 => ?_)
        refine JP_sq (i := 10) [7] rfl (by kernel_rfl) (by kernel_rfl) (by kernel_rfl) rfl (wants_none rfl) rfl (sq_field_pt 0 (GRewrite.at_To _) fi_107_1 rfl rfl rfl) (fun q37 => ?_)
        refine JP_sq (i := 11) [8] rfl (by kernel_rfl) (by kernel_rfl) (by kernel_rfl) rfl (wants_none rfl) rfl (sq_load_pt_o 0 (opens_sl _) ti_31 rfl rfl) (fun v38 => ?_)
        refine JP_go [0, 1, 2, 3, 4, 5, 6, 7, 8] [9] rfl rfl rfl (fun w40 h1_41 hp39 => ?_)
        refine JD_bnd fun r42 hr43 => ?_
        refine JD_one (i := 6) (by kernel_rfl) ?_
        refine JO_call rfl (wants_none rfl) rfl Try.call123 rfl (Ca_self (fun _ => rfl) fun w hh => c_spec_l00Own _ w (fun _ hk => hk.elim) _ _ (hh.rd0 3 rfl) _ hr43) (fun x44 => ?_)
        refine JD_bnd fun r45 hr46 => ?_
        refine JD_one (i := 12) (by kernel_rfl) ?_
        refine JO_call rfl (wants_none rfl) rfl Try.call123 rfl (Ca_self (fun _ => rfl) fun w hh => c_spec_l00Own _ w (fun _ hk => hk.elim) _ _ (hh.rd0 1 rfl) _ hr46) (fun x47 => ?_)
        refine JD_one (i := 13) (by kernel_rfl) ?_
        refine JO_q rfl (wants_none rfl) rfl (ex_build si_113 rfl (.cons fi_113_0 rfl rfl (.cons fi_113_1 rfl rfl .nil)) (fun w hh => ⟨(hh.cv_ow 1 rfl), (hh.cv_ow 0 rfl), trivial⟩)) ?_
        refine JD_one (i := 14) (by kernel_rfl) ?_
        refine JO_ctx (fun w hh => hh.tokf 1 rfl rfl) (tokf_owns (i := 1) rfl) ?_
        refine JO_ctx (fun w hh => hh.tokf 1 rfl rfl) (tokf_owns (i := 1) rfl) ?_
        refine JO_st rfl (wants_none rfl) rfl (st_buildSlice_od (vs := [.agg #[x44, x47]]) (B := (((x44 : Value).ownBlock.toList ++ []) ++ (((x47 : Value).ownBlock.toList ++ []) ++ []))) ([(⟨r42, r45⟩ : GDomino)] : List GDomino) [1, 0] Try.underlying51 ti_113 zi_113 rfl rfl rfl rfl rfl (fun w hh => (dwv_cons (GDomino.dw (hh.dw 1 rfl) (hh.dw 0 rfl)) dwv_nil))) (fun _ hk => nomatch hk) (fun b48 => ?_)
        refine JD_bnd fun z49 hz50 => ?_
        refine JD_one (i := 15) (by kernel_rfl) ?_
        refine JO_st rfl (wants_none rfl) rfl (st_append_od 14 0 Try.underlying51 ti_113 zi_113 rfl bi_113 rfl rfl rfl rfl rfl rfl hz50) (sub_od 0 rfl) (fun v51 => ?_)
        refine JD_take (i := 16) hp39 rfl (by kernel_rfl) (by kernel_rfl) (by kernel_rfl) (wants_none rfl) rfl (ex_assign rfl) ?_
        refine JD_done (by kernel_rfl) ?_
        refine N_block ?_
        refine N_then ?_
        refine J_region ?_
        refine JL_q (wants_none rfl) rfl (ex_move rfl) ?_
        refine JL_q (wants_none rfl) rfl (ex_add rfl rfl) ?_
        refine JL_q (wants_none rfl) rfl (ex_assign rfl) ?_
        refine JL_nil ?_
        exact N_next' (v51, (g27_1 ++ (((x44 : Value).ownBlock.toList ++ []) ++ (((x47 : Value).ownBlock.toList ++ []) ++ [])))) ⟨rfl, rfl, rfl, rfl, rfl, trivial⟩ [11, 12, 13, 14] rfl rfl
      · refine J_exit ?_
        refine N_then_exit ?_
        exact N_break' (g27_0, g27_1) ⟨rfl, rfl, rfl, rfl, rfl, trivial⟩ [0, 1, 2, 3] rfl rfl
    · obtain ⟨g27_0, g27_1⟩ := g27
      refine N_then ?_
      refine J_seq ?_
      refine J_cut' (S' := Unit) (G' := Unit) (fun _ _ => [(2, v2_), (8, g27_0)]) (fun _ _ => [.rd v2_ p2, .od 113 g27_0 s26.1 g27_1]) ?_ (fun s52 g53 => ?_)
      · refine J_seq ?_
        refine J_region ?_
        refine JL_q (wants_none rfl) rfl (ex_move rfl) ?_
        refine JL_bnd fun z54 hz55 => ?_
        refine JL_st (wants_none rfl) rfl (st_od 3 rfl (st_slice_bor 3 Try.underlying51 ti_113 rfl rfl rfl rfl hz55) (fun _ => rfl)) (fun v56 => ?_)
        refine JL_bnd fun r57 hr58 => ?_
        refine JL_call (wants_none rfl) rfl Try.call159 rfl (Ca_of0 fun w hh => c_spec_l32Least _ w (fun _ hk => hk.elim) _ _ ((hh.pr 0 rfl).2 _ _ (hh.od0 4 rfl)) _ _ hr58) (fun _ => ?_)
        refine JL_q (wants_none rfl) rfl (ex_not rfl) ?_
        refine JL_q (wants_none rfl) rfl (ex_move rfl) ?_
        refine JL_cond (fun h59 => ?_) (fun h59 => ?_)
        · refine JL_passed rfl rfl rfl h59 ?_
          refine JL_passed rfl rfl rfl h59 ?_
          refine JL_passed rfl rfl rfl h59 ?_
          refine JL_passed rfl rfl rfl h59 ?_
          refine JL_passed rfl rfl rfl h59 ?_
          refine JL_q (wants_none rfl) rfl (ex_pick_true rfl h59 rfl) ?_
          refine JL_q (wants_none rfl) rfl (ex_move rfl) ?_
          refine JL_passed rfl rfl rfl rfl ?_
          refine JL_passed rfl rfl rfl rfl ?_
          refine JL_passed rfl rfl rfl rfl ?_
          refine JL_passed rfl rfl rfl rfl ?_
          refine JL_passed rfl rfl rfl rfl ?_
          refine JL_q (wants_none rfl) rfl (ex_pick_true rfl rfl rfl) ?_
          refine JL_nil ?_
          refine N_then ?_
          refine J_if_true rfl rfl ?_
          refine J_seq ?_
          refine J_region ?_
          refine JL_q (wants_none rfl) rfl (ex_assign rfl) ?_
          refine JL_q (wants_none rfl) rfl (ex_assign rfl) ?_
          refine JL_nil ?_
          refine N_then ?_
          refine J_ret ?_
          refine N_mid_ret ?_
          refine N_then_ret ?_
          refine N_ctx (fun w hh => SH.od_nil (α := GDomino) 113 hh) ?_
          exact N_ret2 rfl (rv_tmp rfl) (rv_tmp rfl) (fun w hh => ⟨((.slice none 0 0 : Value), ([] : List Nat)), rfl, hh.sel [0] rfl⟩)
        · refine JL_q (wants_some rfl rfl rfl h59) rfl (ex_move rfl) ?_
          refine JL_q (wants_some rfl rfl rfl h59) rfl (ex_move rfl) ?_
          refine JL_q (wants_some rfl rfl rfl h59) rfl (ex_len_rd 2 Try.underlying31 rfl rfl) ?_
          refine JL_bnd fun r60 hr61 => ?_
          refine JL_call (wants_some rfl rfl rfl h59) rfl Try.call160 rfl (Ca_of0 fun w hh => c_spec_l06Row _ w (fun _ hk => hk.elim) _ _ (hh.rd0 2 rfl) _ _ _ _ hr61) (fun _ => ?_)
          refine JL_q (wants_some rfl rfl rfl h59) rfl (ex_not rfl) ?_
          refine JL_q (wants_none rfl) rfl (ex_pick_false rfl h59 rfl) ?_
          refine JL_q (wants_none rfl) rfl (ex_move rfl) ?_
          refine JL_cond (fun h62 => ?_) (fun h62 => ?_)
          · refine JL_passed rfl rfl rfl h62 ?_
            refine JL_passed rfl rfl rfl h62 ?_
            refine JL_passed rfl rfl rfl h62 ?_
            refine JL_passed rfl rfl rfl h62 ?_
            refine JL_passed rfl rfl rfl h62 ?_
            refine JL_q (wants_none rfl) rfl (ex_pick_true rfl h62 rfl) ?_
            refine JL_nil ?_
            refine N_then ?_
            refine J_if_true rfl rfl ?_
            refine J_seq ?_
            refine J_region ?_
            refine JL_q (wants_none rfl) rfl (ex_assign rfl) ?_
            refine JL_q (wants_none rfl) rfl (ex_assign rfl) ?_
            refine JL_nil ?_
            refine N_then ?_
            refine J_ret ?_
            refine N_mid_ret ?_
            refine N_then_ret ?_
            refine N_ctx (fun w hh => SH.od_nil (α := GDomino) 113 hh) ?_
            exact N_ret2 rfl (rv_tmp rfl) (rv_tmp rfl) (fun w hh => ⟨((.slice none 0 0 : Value), ([] : List Nat)), rfl, hh.sel [0] rfl⟩)
          · refine JL_q (wants_some rfl rfl rfl h62) rfl (ex_move rfl) ?_
            refine JL_q (wants_some rfl rfl rfl h62) rfl (ex_move rfl) ?_
            refine JL_q (wants_some rfl rfl rfl h62) rfl (ex_len_rd 3 Try.underlying31 rfl rfl) ?_
            refine JL_bnd fun r63 hr64 => ?_
            refine JL_call (wants_some rfl rfl rfl h62) rfl Try.call160 rfl (Ca_of0 fun w hh => c_spec_l06Row _ w (fun _ hk => hk.elim) _ _ (hh.rd0 3 rfl) _ _ _ _ hr64) (fun _ => ?_)
            refine JL_q (wants_some rfl rfl rfl h62) rfl (ex_not rfl) ?_
            refine JL_q (wants_none rfl) rfl (ex_pick_false rfl h62 rfl) ?_
            refine JL_nil ?_
            refine N_then ?_
            refine J_if rfl (fun h65 => ?_) (fun h65 => ?_)
            · refine J_seq ?_
              refine J_region ?_
              refine JL_q (wants_none rfl) rfl (ex_assign rfl) ?_
              refine JL_q (wants_none rfl) rfl (ex_assign rfl) ?_
              refine JL_nil ?_
              refine N_then ?_
              refine J_ret ?_
              refine N_mid_ret ?_
              refine N_then_ret ?_
              refine N_ctx (fun w hh => SH.od_nil (α := GDomino) 113 hh) ?_
              exact N_ret2 rfl (rv_tmp rfl) (rv_tmp rfl) (fun w hh => ⟨((.slice none 0 0 : Value), ([] : List Nat)), rfl, hh.sel [0] rfl⟩)
            · refine J_skip ?_
              exact N_meet' () ⟨rfl, rfl, trivial⟩ [3, 4] rfl rfl
      · refine N_then ?_
        refine J_seq ?_
        refine J_region ?_
        refine JL_q (wants_none rfl) rfl (ex_move rfl) ?_
        refine JL_q (wants_none rfl) rfl (ex_move rfl) ?_
        refine JL_bnd fun r66 hr67 => ?_
        refine JL_call (wants_none rfl) rfl Try.call123 rfl (Ca_self (fun _ => rfl) fun w hh => c_spec_l00Own _ w (fun _ hk => hk.elim) _ _ (hh.rd0 0 rfl) _ hr67) (fun x68 => ?_)
        refine JL_st (wants_none rfl) rfl (st_buildSlice (vs := [.int .i64 6, .int .i64 7]) ([6, 7] : List Int) Try.underlying31 ti_2 zi_2 rfl rfl rfl (fun w hh => ⟨(Rd.mk_int _ _ _), (Rd.mk_int _ _ _), trivial⟩)) (fun b69 => ?_)
        refine JL_bnd fun z70 hz71 => ?_
        refine JL_st (wants_none rfl) rfl (st_append 1 Try.underlying31 ti_2 zi_2 rfl bi_2 rfl rfl rfl rfl (fun w hh => hh.src_ow 0 rfl) hz71) (fun v72 => ?_)
        refine JL_st (wants_none rfl) rfl (st_buildSlice (vs := [.int .i64 7]) ([7] : List Int) Try.underlying31 ti_2 zi_2 rfl rfl rfl (fun w hh => ⟨(Rd.mk_int _ _ _), trivial⟩)) (fun b73 => ?_)
        refine JL_q (wants_none rfl) rfl (ex_build si_113 rfl (.cons fi_113_0 rfl rfl (.cons fi_113_1 rfl rfl .nil)) (fun w hh => ⟨(hh.cv_ow 2 rfl), (hh.cv_ow 0 rfl), trivial⟩)) ?_
        refine JL_ctx (fun w hh => hh.tokf 2 rfl rfl) ?_
        refine JL_ctx (fun w hh => hh.tokf 1 rfl rfl) ?_
        refine JL_st (wants_none rfl) rfl (st_buildSlice_od (vs := [.agg #[v72, (.slice (some ⟨b73, 0, none⟩) 1 1)]]) (B := (((v72 : Value).ownBlock.toList ++ []) ++ ((((.slice (some ⟨b73, 0, none⟩) 1 1) : Value).ownBlock.toList ++ []) ++ []))) ([(⟨z70, ([7] : List Int)⟩ : GDomino)] : List GDomino) [1, 0] Try.underlying51 ti_113 zi_113 rfl rfl rfl rfl rfl (fun w hh => (dwv_cons (GDomino.dw (hh.dw 1 rfl) (hh.dw 0 rfl)) dwv_nil))) (fun b74 => ?_)
        refine JL_bnd fun z75 hz76 => ?_
        refine JL_st (wants_none rfl) rfl (st_append_od 7 0 Try.underlying51 ti_113 zi_113 rfl bi_113 rfl rfl rfl rfl rfl rfl hz76) (fun v77 => ?_)
        refine JL_q (wants_none rfl) rfl (ex_assign rfl) ?_
        refine JL_nil ?_
        refine N_then ?_
        refine J_seq ?_
        refine J_seq ?_
        refine J_region ?_
        refine JL_q (wants_none rfl) rfl (ex_move rfl) ?_
        refine JL_bnd fun r78 hr79 => ?_
        refine JL_call (wants_none rfl) rfl Try.call109 rfl (Ca_of0 fun w hh => c_spec_l32Is _ w (fun _ hk => hk.elim) _ _ (hh.od0 7 rfl) _ hr79) (fun _ => ?_)
        refine JL_q (wants_none rfl) rfl (ex_not rfl) ?_
        refine JL_nil ?_
        refine N_then ?_
        refine J_if rfl (fun h80 => ?_) (fun h80 => ?_)
        · refine J_seq ?_
          refine J_region ?_
          refine JL_q (wants_none rfl) rfl (ex_assign rfl) ?_
          refine JL_q (wants_none rfl) rfl (ex_assign rfl) ?_
          refine JL_nil ?_
          refine N_then ?_
          refine J_ret ?_
          refine N_then_ret ?_
          refine N_ctx (fun w hh => SH.od_nil (α := GDomino) 113 hh) ?_
          exact N_ret2 rfl (rv_tmp rfl) (rv_tmp rfl) (fun w hh => ⟨((.slice none 0 0 : Value), ([] : List Nat)), rfl, hh.sel [0] rfl⟩)
        · refine J_skip ?_
          refine N_then ?_
          refine J_seq ?_
          refine J_region ?_
          refine JL_q (wants_none rfl) rfl (ex_move rfl) ?_
          refine JL_q (wants_none rfl) rfl (ex_assign rfl) ?_
          refine JL_q (wants_none rfl) rfl (ex_assign rfl) ?_
          refine JL_nil ?_
          refine N_then ?_
          refine J_ret ?_
          exact N_ret2 rfl (rv_tmp rfl) (rv_tmp rfl) (fun w hh => ⟨(v77, (g27_1 ++ (((v72 : Value).ownBlock.toList ++ []) ++ ((((.slice (some ⟨b73, 0, none⟩) 1 1) : Value).ownBlock.toList ++ []) ++ [])))), rfl, hh.sel [7] rfl⟩)

set_option maxHeartbeats 4000000 in
theorem c_slices_IndexFunc_Simpl_Rewrite_impl_Rewrite (A : Nat → Prop) (w : World) (hA : ∀ k, A k → k < w.heap.size) (v0_ : Value) (p0 : (List GRewrite)) (hp0 : Rd A w v0_ p0) (v1_ : Value) (p1 : (GRewrite → Option Bool)) (hp1 : Clo Try.prog w v1_ p1 .bool) (r : Int) (hr : F_slices_IndexFunc_Simpl_Rewrite_impl_Rewrite p0 p1 = some r) :
    Con Try.prog 204 [v0_, v1_] A w (fun x_ : Unit => .int .i64 r) (fun x_ => []) := by
  refine Con_of (v := fun (r : Int) (x_ : Unit) => .int .i64 r) (fs := fun r x_ => []) Try.func204 rfl Try.ntmps204 rfl ((SH.start hA).start_rd rfl hp0) rfl ?_ hr
  unfold F_slices_IndexFunc_Simpl_Rewrite_impl_Rewrite
  refine J_seq ?_
  refine J_region ?_
  refine JL_q (wants_none rfl) rfl (ex_assign rfl) ?_
  refine JL_nil ?_
  refine N_then ?_
  refine J_seq ?_
  refine J_seq ?_
  refine J_region ?_
  refine JL_q (wants_none rfl) rfl (ex_move rfl) ?_
  refine JL_q (wants_none rfl) rfl (ex_len_rd 0 Try.underlying54 rfl rfl) ?_
  refine JL_q (wants_none rfl) rfl (ex_move rfl) ?_
  refine JL_nil ?_
  refine N_then ?_
  refine J_loop' (S := Int) (G := Unit) (F_slices_IndexFunc_Simpl_Rewrite_impl_Rewrite_L1 p0 p1) (fun s1 _ => [(0, v0_), (1, v1_), (7, .int .i64 (p0.length : Int)), (8, .int .i64 s1)]) (fun s1 _ => [.rd v0_ p0]) 0 () ⟨rfl, rfl, rfl, rfl, trivial⟩ [0] rfl rfl (fun s1 g2 => ?_) (fun s1 g2 => ?_)
  · unfold F_slices_IndexFunc_Simpl_Rewrite_impl_Rewrite_L1
    refine J_seq ?_
    refine J_region ?_
    refine JL_q (wants_none rfl) rfl (ex_lss rfl rfl) ?_
    refine JL_nil ?_
    refine N_then ?_
    refine J_seq ?_
    refine J_if rfl (fun h3 => ?_) (fun h3 => ?_)
    · refine J_skip ?_
      refine N_then ?_
      refine J_seq ?_
      refine J_block ?_
      refine J_seq ?_
      refine J_region ?_
      refine JL_q (wants_none rfl) rfl (ex_move rfl) ?_
      refine JL_q (wants_none rfl) rfl (ex_assign rfl) ?_
      refine JL_nil ?_
      refine N_then ?_
      refine J_seq ?_
      refine J_region ?_
      refine JL_q (wants_none rfl) rfl (ex_move rfl) ?_
      refine JL_q (wants_none rfl) rfl (ex_move rfl) ?_
      refine JL_q (wants_none rfl) rfl (ex_move rfl) ?_
      refine JL_bnd fun y4 hy5 => ?_
      refine JL_st (wants_none rfl) rfl (st_index 0 Try.underlying54 ti_107 rfl rfl rfl hy5) (fun q6 => ?_)
      refine JL_st (wants_none rfl) rfl (st_load_pt_o 0 (GRewrite.opens _) ti_107 rfl rfl) (fun v7 => ?_)
      refine JL_bnd fun r8 hr9 => ?_
      refine JL_clo (wants_none rfl) rfl hp1 rfl rfl (fun w hh => (GRewrite.rdmk (hh.rd0 0 rfl) (hh.rd0 1 rfl))) hr9 ?_
      refine JL_nil ?_
      refine N_then ?_
      refine J_if rfl (fun h10 => ?_) (fun h10 => ?_)
      · refine J_seq ?_
        refine J_region ?_
        refine JL_q (wants_none rfl) rfl (ex_move rfl) ?_
        refine JL_q (wants_none rfl) rfl (ex_assign rfl) ?_
        refine JL_nil ?_
        refine N_then ?_
        refine J_ret ?_
        refine N_block_ret ?_
        refine N_then_ret ?_
        refine N_round_ret ?_
        refine N_then_ret ?_
        exact N_ret1 rfl (rv_tmp rfl) (fun w hh => ⟨(), rfl, hh.sel [] rfl⟩)
      · refine J_skip ?_
        refine N_block ?_
        refine N_then ?_
        refine J_region ?_
        refine JL_q (wants_none rfl) rfl (ex_add rfl rfl) ?_
        refine JL_q (wants_none rfl) rfl (ex_move rfl) ?_
        refine JL_nil ?_
        exact N_next' () ⟨rfl, rfl, rfl, rfl, trivial⟩ [3] rfl rfl
    · refine J_exit ?_
      refine N_then_exit ?_
      exact N_break' () ⟨rfl, rfl, rfl, rfl, trivial⟩ [0] rfl rfl
  · refine N_then ?_
    refine J_seq ?_
    refine J_region ?_
    refine JL_q (wants_none rfl) rfl (ex_assign rfl) ?_
    refine JL_nil ?_
    refine N_then ?_
    refine J_ret ?_
    exact N_ret1 rfl (rv_tmp rfl) (fun w hh => ⟨(), rfl, hh.sel [] rfl⟩)

set_option maxHeartbeats 4000000 in
theorem c_slices_ContainsFunc_Simpl_Rewrite_impl_Rewrite (A : Nat → Prop) (w : World) (hA : ∀ k, A k → k < w.heap.size) (v0_ : Value) (p0 : (List GRewrite)) (hp0 : Rd A w v0_ p0) (v1_ : Value) (p1 : (GRewrite → Option Bool)) (hp1 : Clo Try.prog w v1_ p1 .bool) (r : Bool) (hr : F_slices_ContainsFunc_Simpl_Rewrite_impl_Rewrite p0 p1 = some r) :
    Con Try.prog 162 [v0_, v1_] A w (fun x_ : Unit => .bool r) (fun x_ => []) := by
  refine Con_of (v := fun (r : Bool) (x_ : Unit) => .bool r) (fs := fun r x_ => []) Try.func162 rfl Try.ntmps162 rfl ((SH.start hA).start_rd rfl hp0) rfl ?_ hr
  unfold F_slices_ContainsFunc_Simpl_Rewrite_impl_Rewrite
  refine J_seq ?_
  refine J_region ?_
  refine JL_q (wants_none rfl) rfl (ex_assign rfl) ?_
  refine JL_nil ?_
  refine N_then ?_
  refine J_seq ?_
  refine J_region ?_
  refine JL_q (wants_none rfl) rfl (ex_move rfl) ?_
  refine JL_q (wants_none rfl) rfl (ex_move rfl) ?_
  refine JL_bnd fun r1 hr2 => ?_
  refine JL_call (wants_none rfl) rfl Try.call204 rfl (Ca_of0 fun w hh => c_slices_IndexFunc_Simpl_Rewrite_impl_Rewrite _ w (fun _ hk => hk.elim) _ _ (hh.rd0 0 rfl) _ _ (hp1.later hh.below) _ hr2) (fun _ => ?_)
  refine JL_q (wants_none rfl) rfl (ex_geq rfl rfl) ?_
  refine JL_q (wants_none rfl) rfl (ex_assign rfl) ?_
  refine JL_nil ?_
  refine N_then ?_
  refine J_ret ?_
  exact N_ret1 rfl (rv_tmp rfl) (fun w hh => ⟨(), rfl, hh.sel [] rfl⟩)

set_option maxHeartbeats 4000000 in
theorem c_impl_ValidRewrites_1 (A : Nat → Prop) (w : World) (hA : ∀ k, A k → k < w.heap.size) (v0_ : Value) (p0 : GRewrite) (hp0 : Rd A w v0_ p0) (r : Bool) (hr : F_impl_ValidRewrites_1 p0 = some r) :
    Con Try.prog 163 [v0_] A w (fun x_ : Unit => .bool r) (fun x_ => []) := by
  obtain ⟨v0_0, v0_1, rfl, hp0_0, hp0_1⟩ := GRewrite.open hp0
  refine Con_of (v := fun (r : Bool) (x_ : Unit) => .bool r) (fs := fun r x_ => []) Try.func163 rfl Try.ntmps163 rfl (((SH.start hA).start_rd rfl hp0_0).start_rd rfl hp0_1) rfl ?_ hr
  unfold F_impl_ValidRewrites_1
  refine J_seq ?_
  refine J_region ?_
  refine JL_st (wants_none rfl) rfl (st_box' rfl (fun w hh => (cv_aggs ⟨(hh.cv 1 rfl), (hh.cv 0 rfl), trivial⟩))) (fun b1 => ?_)
  refine JL_q (wants_none rfl) rfl (ex_assign rfl) ?_
  refine JL_nil ?_
  refine N_then ?_
  refine J_seq ?_
  refine J_region ?_
  refine JL_q (wants_none rfl) rfl (ex_fieldAddr fi_107_0 rfl rfl) ?_
  refine JL_q (wants_none rfl) rfl (ex_load_bx 0 ti_31 rfl rfl rfl) ?_
  refine JL_q (wants_none rfl) rfl (ex_fieldAddr fi_107_1 rfl rfl) ?_
  refine JL_q (wants_none rfl) rfl (ex_load_bx 0 ti_31 rfl rfl rfl) ?_
  refine JL_st (wants_none rfl) rfl (st_buildSlice (vs := [v0_0, v0_1]) ([p0.From, p0.To] : List (List Int)) Try.underlying22 ti_31 zi_31 rfl rfl rfl (fun w hh => ⟨(hh.rd 2 rfl), (hh.rd 1 rfl), trivial⟩)) (fun b2 => ?_)
  refine JL_bnd fun r3 hr4 => ?_
  refine JL_call (wants_none rfl) rfl Try.call91 rfl (Ca_of0 fun w hh => c_impl_areWords _ w (fun _ hk => hk.elim) _ _ (hh.ow0 0 rfl) _ hr4) (fun _ => ?_)
  refine JL_q (wants_none rfl) rfl (ex_not rfl) ?_
  refine JL_q (wants_none rfl) rfl (ex_move rfl) ?_
  refine JL_cond (fun h5 => ?_) (fun h5 => ?_)
  · refine JL_passed rfl rfl rfl h5 ?_
    refine JL_passed rfl rfl rfl h5 ?_
    refine JL_passed rfl rfl rfl h5 ?_
    refine JL_passed rfl rfl rfl h5 ?_
    refine JL_q (wants_none rfl) rfl (ex_pick_true rfl h5 rfl) ?_
    refine JL_q (wants_none rfl) rfl (ex_assign rfl) ?_
    refine JL_nil ?_
    refine N_then ?_
    refine J_ret ?_
    exact N_ret1 rfl (rv_tmp rfl) (fun w hh => ⟨(), rfl, hh.sel [] rfl⟩)
  · refine JL_q (wants_some rfl rfl rfl h5) rfl (ex_fieldAddr fi_107_0 rfl rfl) ?_
    refine JL_q (wants_some rfl rfl rfl h5) rfl (ex_load_bx 1 ti_31 rfl rfl rfl) ?_
    refine JL_q (wants_some rfl rfl rfl h5) rfl (ex_len_rd 3 Try.underlying31 rfl rfl) ?_
    refine JL_q (wants_some rfl rfl rfl h5) rfl (ex_eql rfl rfl) ?_
    refine JL_q (wants_none rfl) rfl (ex_pick_false rfl h5 rfl) ?_
    refine JL_q (wants_none rfl) rfl (ex_assign rfl) ?_
    refine JL_nil ?_
    refine N_then ?_
    refine J_ret ?_
    exact N_ret1 rfl (rv_tmp rfl) (fun w hh => ⟨(), rfl, hh.sel [] rfl⟩)

set_option maxHeartbeats 4000000 in
theorem c_impl_ValidRewrites (A : Nat → Prop) (w : World) (hA : ∀ k, A k → k < w.heap.size) (v0_ : Value) (p0 : (List GRewrite)) (hp0 : Rd A w v0_ p0) (r : Bool) (hr : F_impl_ValidRewrites p0 = some r) :
    Con Try.prog 90 [v0_] A w (fun x_ : Unit => .bool r) (fun x_ => []) := by
  refine Con_of (v := fun (r : Bool) (x_ : Unit) => .bool r) (fs := fun r x_ => []) Try.func90 rfl Try.ntmps90 rfl ((SH.start hA).start_rd rfl hp0) rfl ?_ hr
  unfold F_impl_ValidRewrites
  refine J_seq ?_
  refine J_region ?_
  refine JL_q (wants_none rfl) rfl (ex_assign rfl) ?_
  refine JL_nil ?_
  refine N_then ?_
  refine J_seq ?_
  refine J_region ?_
  refine JL_q (wants_none rfl) rfl (ex_move rfl) ?_
  refine JL_bnd fun r1 hr2 => ?_
  refine JL_call (wants_none rfl) rfl Try.call161 rfl (Ca_of0 fun w hh => c_impl_size_impl_Rewrite _ w (fun _ hk => hk.elim) _ _ (hh.rd0 0 rfl) _ hr2) (fun _ => ?_)
  refine JL_bnd fun r3 hr4 => ?_
  refine JL_call (wants_none rfl) rfl Try.call81 rfl (Ca_of0 fun w hh => c_impl_within _ w (fun _ hk => hk.elim) _ _ _ _ hr4) (fun _ => ?_)
  refine JL_q (wants_none rfl) rfl (ex_move rfl) ?_
  refine JL_cond (fun h5 => ?_) (fun h5 => ?_)
  · refine JL_q (wants_some rfl rfl rfl h5) rfl (ex_move rfl) ?_
    refine JL_bnd fun r6 hr7 => ?_
    refine JL_call (wants_some rfl rfl rfl h5) rfl Try.call162 rfl (Ca_of0 fun w hh => c_slices_ContainsFunc_Simpl_Rewrite_impl_Rewrite _ w (fun _ hk => hk.elim) _ _ (hh.rd0 0 rfl) _ _ (Clo.mk (caps := []) Try.call163 (fun w_ hb_ v_ x_ r_ hrd_ hr_ => c_impl_ValidRewrites_1 nowhere w_ (fun _ hk => hk.elim) v_ x_ hrd_  _ hr_)) _ hr7) (fun _ => ?_)
    refine JL_q (wants_some rfl rfl rfl h5) rfl (ex_not rfl) ?_
    refine JL_q (wants_none rfl) rfl (ex_pick_true rfl h5 rfl) ?_
    refine JL_q (wants_none rfl) rfl (ex_assign rfl) ?_
    refine JL_nil ?_
    refine N_then ?_
    refine J_ret ?_
    exact N_ret1 rfl (rv_tmp rfl) (fun w hh => ⟨(), rfl, hh.sel [] rfl⟩)
  · refine JL_passed rfl rfl rfl h5 ?_
    refine JL_passed rfl rfl rfl h5 ?_
    refine JL_passed rfl rfl rfl h5 ?_
    refine JL_q (wants_none rfl) rfl (ex_pick_false rfl h5 rfl) ?_
    refine JL_q (wants_none rfl) rfl (ex_assign rfl) ?_
    refine JL_nil ?_
    refine N_then ?_
    refine J_ret ?_
    exact N_ret1 rfl (rv_tmp rfl) (fun w hh => ⟨(), rfl, hh.sel [] rfl⟩)

set_option maxHeartbeats 4000000 in
theorem c_impl_rewritesToDominoes (A : Nat → Prop) (w : World) (hA : ∀ k, A k → k < w.heap.size) (v0_ : Value) (p0 : (List GRewrite)) (hp0 : Rd A w v0_ p0) (v1_ : Value) (p1 : (List Int)) (hp1 : Rd A w v1_ p1) (v2_ : Value) (p2 : (List Int)) (hp2 : Rd A w v2_ p2) (r : (List GDomino) × Int) (hr : F_impl_rewritesToDominoes p0 p1 p2 = some r) :
    Con Try.prog 92 [v0_, v1_, v2_] A w (fun x_ : Value × List Nat => .tuple #[x_.1, .int .i64 r.2]) (fun x_ => [.od 113 x_.1 r.1 x_.2]) := by
  refine Con_of (v := fun (r : (List GDomino) × Int) (x_ : Value × List Nat) => .tuple #[x_.1, .int .i64 r.2]) (fs := fun r x_ => [.od 113 x_.1 r.1 x_.2]) Try.func92 rfl Try.ntmps92 rfl ((((SH.start hA).start_rd rfl hp0).start_rd rfl hp1).start_rd rfl hp2) rfl ?_ hr
  unfold F_impl_rewritesToDominoes
  refine J_seq ?_
  refine J_region ?_
  refine JL_q (wants_none rfl) rfl (ex_assign rfl) ?_
  refine JL_q (wants_none rfl) rfl (ex_assign rfl) ?_
  refine JL_nil ?_
  refine N_then ?_
  refine J_seq ?_
  refine J_region ?_
  refine JL_st (wants_none rfl) rfl (st_buildSlice (vs := [.int .i64 6]) ([6] : List Int) Try.underlying31 ti_2 zi_2 rfl rfl rfl (fun w hh => ⟨(Rd.mk_int _ _ _), trivial⟩)) (fun b1 => ?_)
  refine JL_q (wants_none rfl) rfl (ex_assign rfl) ?_
  refine JL_nil ?_
  refine N_then ?_
  refine J_seq ?_
  refine J_region ?_
  refine JL_q (wants_none rfl) rfl (ex_move rfl) ?_
  refine JL_q (wants_none rfl) rfl (ex_move rfl) ?_
  refine JL_q (wants_none rfl) rfl (ex_move rfl) ?_
  refine JL_q (wants_none rfl) rfl (ex_move rfl) ?_
  refine JL_ctx (fun w hh => hh.tokf 0 rfl rfl) ?_
  refine JL_st (wants_none rfl) rfl (st_buildSlice (vs := [(.slice (some ⟨b1, 0, none⟩) 1 1), v1_, (.slice (some ⟨b1, 0, none⟩) 1 1)]) ([([6] : List Int), p1, ([6] : List Int)] : List (List Int)) Try.underlying22 ti_31 zi_31 rfl rfl rfl (fun w hh => ⟨(hh.rd 1 rfl), (hh.rd 3 rfl), (hh.rd 1 rfl), trivial⟩)) (fun b2 => ?_)
  refine JL_bnd fun r3 hr4 => ?_
  refine JL_call (wants_none rfl) rfl Try.call118 rfl (Ca_self (fun _ => rfl) fun w hh => c_impl_joined _ w (fun _ hk => hk.elim) _ _ (hh.ow0 0 rfl) _ hr4) (fun x5 => ?_)
  refine JL_q (wants_none rfl) rfl (ex_build si_113 rfl (.cons fi_113_0 rfl rfl (.cons fi_113_1 rfl rfl .nil)) (fun w hh => ⟨(hh.cv 3 rfl), (hh.cv_ow 0 rfl), trivial⟩)) ?_
  refine JL_ctx (fun w hh => hh.tokf 0 rfl rfl) ?_
  refine JL_st (wants_none rfl) rfl (st_buildSlice_od (vs := [.agg #[(.slice (some ⟨b1, 0, none⟩) 1 1), x5]]) (B := ((((.slice (some ⟨b1, 0, none⟩) 1 1) : Value).ownBlock.toList ++ []) ++ (((x5 : Value).ownBlock.toList ++ []) ++ []))) ([(⟨([6] : List Int), r3⟩ : GDomino)] : List GDomino) [3, 0] Try.underlying51 ti_113 zi_113 rfl rfl rfl rfl rfl (fun w hh => (dwv_cons (GDomino.dw (hh.dw 3 rfl) (hh.dw 0 rfl)) dwv_nil))) (fun b6 => ?_)
  refine JL_q (wants_none rfl) rfl (ex_assign rfl) ?_
  refine JL_nil ?_
  refine N_then ?_
  refine J_seq ?_
  refine J_seq ?_
  refine J_region ?_
  refine JL_q (wants_none rfl) rfl (ex_move rfl) ?_
  refine JL_nil ?_
  refine N_then ?_
  refine J_loop' (S := (List GDomino) × Int) (G := Value × List Nat) (F_impl_rewritesToDominoes_L1) (fun s7 g8 => [(0, v0_), (1, v1_), (2, v2_), (8, (.slice (some ⟨b1, 0, none⟩) 1 1)), (9, g8.1), (23, .int .i64 s7.2)]) (fun s7 g8 => [.rd v0_ p0, .rd v1_ p1, .rd v2_ p2, .rd (.slice (some ⟨b1, 0, none⟩) 1 1) ([6] : List Int), .od 113 g8.1 s7.1 g8.2]) (([(⟨([6] : List Int), r3⟩ : GDomino)] : List GDomino), 0) ((.slice (some ⟨b6, 0, none⟩) 1 1), ((((.slice (some ⟨b1, 0, none⟩) 1 1) : Value).ownBlock.toList ++ []) ++ (((x5 : Value).ownBlock.toList ++ []) ++ []))) ⟨rfl, rfl, rfl, rfl, rfl, rfl, trivial⟩ [8, 7, 6, 5, 0] rfl rfl (fun s7 g8 => ?_) (fun s7 g8 => ?_)
  · obtain ⟨g8_0, g8_1⟩ := g8
    unfold F_impl_rewritesToDominoes_L1
    refine J_seq ?_
    refine J_region ?_
    refine JL_q (wants_none rfl) rfl (ex_lss rfl rfl) ?_
    refine JL_nil ?_
    refine N_then ?_
    refine J_seq ?_
    refine J_if rfl (fun h9 => ?_) (fun h9 => ?_)
    · refine J_skip ?_
      refine N_then ?_
      refine J_seq ?_
      refine J_block ?_
      refine J_seq ?_
      refine J_region ?_
      refine JL_q (wants_none rfl) rfl (ex_move rfl) ?_
      refine JL_q (wants_none rfl) rfl (ex_assign rfl) ?_
      refine JL_nil ?_
      refine N_then ?_
      refine J_region ?_
      refine JL_q (wants_none rfl) rfl (ex_move rfl) ?_
      refine JL_q (wants_none rfl) rfl (ex_move rfl) ?_
      refine JL_st (wants_none rfl) rfl (st_buildSlice (vs := [.int .i64 s7.2]) ([s7.2] : List Int) Try.underlying31 ti_2 zi_2 rfl rfl rfl (fun w hh => ⟨(Rd.mk_int _ _ _), trivial⟩)) (fun b10 => ?_)
      refine JL_q (wants_none rfl) rfl (ex_move rfl) ?_
      refine JL_st (wants_none rfl) rfl (st_buildSlice (vs := [.int .i64 s7.2]) ([s7.2] : List Int) Try.underlying31 ti_2 zi_2 rfl rfl rfl (fun w hh => ⟨(Rd.mk_int _ _ _), trivial⟩)) (fun b11 => ?_)
      refine JL_q (wants_none rfl) rfl (ex_build si_113 rfl (.cons fi_113_0 rfl rfl (.cons fi_113_1 rfl rfl .nil)) (fun w hh => ⟨(hh.cv_ow 1 rfl), (hh.cv_ow 0 rfl), trivial⟩)) ?_
      refine JL_ctx (fun w hh => hh.tokf 1 rfl rfl) ?_
      refine JL_ctx (fun w hh => hh.tokf 1 rfl rfl) ?_
      refine JL_st (wants_none rfl) rfl (st_buildSlice_od (vs := [.agg #[(.slice (some ⟨b10, 0, none⟩) 1 1), (.slice (some ⟨b11, 0, none⟩) 1 1)]]) (B := ((((.slice (some ⟨b10, 0, none⟩) 1 1) : Value).ownBlock.toList ++ []) ++ ((((.slice (some ⟨b11, 0, none⟩) 1 1) : Value).ownBlock.toList ++ []) ++ []))) ([(⟨([s7.2] : List Int), ([s7.2] : List Int)⟩ : GDomino)] : List GDomino) [1, 0] Try.underlying51 ti_113 zi_113 rfl rfl rfl rfl rfl (fun w hh => (dwv_cons (GDomino.dw (hh.dw 1 rfl) (hh.dw 0 rfl)) dwv_nil))) (fun b12 => ?_)
      refine JL_bnd fun z13 hz14 => ?_
      refine JL_st (wants_none rfl) rfl (st_append_od 9 0 Try.underlying51 ti_113 zi_113 rfl bi_113 rfl rfl rfl rfl rfl rfl hz14) (fun v15 => ?_)
      refine JL_q (wants_none rfl) rfl (ex_assign rfl) ?_
      refine JL_nil ?_
      refine N_block ?_
      refine N_then ?_
      refine J_region ?_
      refine JL_q (wants_none rfl) rfl (ex_add rfl rfl) ?_
      refine JL_q (wants_none rfl) rfl (ex_move rfl) ?_
      refine JL_nil ?_
      exact N_next' (v15, (g8_1 ++ ((((.slice (some ⟨b10, 0, none⟩) 1 1) : Value).ownBlock.toList ++ []) ++ ((((.slice (some ⟨b11, 0, none⟩) 1 1) : Value).ownBlock.toList ++ []) ++ [])))) ⟨rfl, rfl, rfl, rfl, rfl, rfl, trivial⟩ [5, 6, 7, 8, 9] rfl rfl
    · refine J_exit ?_
      refine N_then_exit ?_
      exact N_break' (g8_0, g8_1) ⟨rfl, rfl, rfl, rfl, rfl, rfl, trivial⟩ [0, 1, 2, 3, 4] rfl rfl
  · obtain ⟨g8_0, g8_1⟩ := g8
    refine N_then ?_
    refine J_seq ?_
    refine J_region ?_
    refine JL_q (wants_none rfl) rfl (ex_move rfl) ?_
    refine JL_q (wants_none rfl) rfl (ex_move rfl) ?_
    refine JL_bnd fun r16 hr17 => ?_
    refine JL_call (wants_none rfl) rfl Try.call152 rfl (Ca_self (fun _ => rfl) fun w hh => c_slices_Clone_Sint64_int64 _ w (fun _ hk => hk.elim) _ _ (hh.rd0 3 rfl) _ hr17) (fun x18 => ?_)
    refine JL_q (wants_none rfl) rfl (ex_move rfl) ?_
    refine JL_bnd fun r19 hr20 => ?_
    refine JL_call (wants_none rfl) rfl Try.call152 rfl (Ca_self (fun _ => rfl) fun w hh => c_slices_Clone_Sint64_int64 _ w (fun _ hk => hk.elim) _ _ (hh.rd0 4 rfl) _ hr20) (fun x21 => ?_)
    refine JL_q (wants_none rfl) rfl (ex_build si_113 rfl (.cons fi_113_0 rfl rfl (.cons fi_113_1 rfl rfl .nil)) (fun w hh => ⟨(hh.cv_ow 1 rfl), (hh.cv_ow 0 rfl), trivial⟩)) ?_
    refine JL_ctx (fun w hh => hh.tokf 1 rfl rfl) ?_
    refine JL_ctx (fun w hh => hh.tokf 1 rfl rfl) ?_
    refine JL_st (wants_none rfl) rfl (st_buildSlice_od (vs := [.agg #[x18, x21]]) (B := (((x18 : Value).ownBlock.toList ++ []) ++ (((x21 : Value).ownBlock.toList ++ []) ++ []))) ([(⟨r16, r19⟩ : GDomino)] : List GDomino) [1, 0] Try.underlying51 ti_113 zi_113 rfl rfl rfl rfl rfl (fun w hh => (dwv_cons (GDomino.dw (hh.dw 1 rfl) (hh.dw 0 rfl)) dwv_nil))) (fun b22 => ?_)
    refine JL_bnd fun z23 hz24 => ?_
    refine JL_st (wants_none rfl) rfl (st_append_od 9 0 Try.underlying51 ti_113 zi_113 rfl bi_113 rfl rfl rfl rfl rfl rfl hz24) (fun v25 => ?_)
    refine JL_q (wants_none rfl) rfl (ex_assign rfl) ?_
    refine JL_nil ?_
    refine N_then ?_
    refine J_seq ?_
    refine J_region ?_
    refine JL_q (wants_none rfl) rfl (ex_move rfl) ?_
    refine JL_q (wants_none rfl) rfl (ex_move rfl) ?_
    refine JL_st (wants_none rfl) rfl (st_buildSlice (vs := [v1_, v2_]) ([p1, p2] : List (List Int)) Try.underlying22 ti_31 zi_31 rfl rfl rfl (fun w hh => ⟨(hh.rd 6 rfl), (hh.rd 7 rfl), trivial⟩)) (fun b26 => ?_)
    refine JL_bnd fun r27 hr28 => ?_
    refine JL_call (wants_none rfl) rfl Try.call118 rfl (Ca_self (fun _ => rfl) fun w hh => c_impl_joined _ w (fun _ hk => hk.elim) _ _ (hh.ow0 0 rfl) _ hr28) (fun x29 => ?_)
    refine JL_bnd fun r30 hr31 => ?_
    refine JL_call (wants_none rfl) rfl Try.call153 rfl (Ca_of0 fun w hh => c_impl_allWithin _ w (fun _ hk => hk.elim) _ _ (hh.ow0 0 rfl) _ _ _ hr31) (fun _ => ?_)
    refine JL_q (wants_none rfl) rfl (ex_assign rfl) ?_
    refine JL_nil ?_
    refine N_then ?_
    refine J_seq ?_
    refine J_seq ?_
    refine J_region ?_
    refine JL_q (wants_none rfl) rfl (ex_move rfl) ?_
    refine JL_q (wants_none rfl) rfl (ex_len_rd 7 Try.underlying54 rfl rfl) ?_
    refine JL_q (wants_none rfl) rfl (ex_move rfl) ?_
    refine JL_nil ?_
    refine N_then ?_
    refine J_loop' (S := (List GDomino) × Bool × Int) (G := Value × List Nat) (F_impl_rewritesToDominoes_L2 p0) (fun s32 g33 => [(2, v2_), (9, g33.1), (11, .bool s32.2.1), (48, v0_), (49, .int .i64 (p0.length : Int)), (50, .int .i64 s32.2.2)]) (fun s32 g33 => [.rd v2_ p2, .od 113 g33.1 s32.1 g33.2, .rd v0_ p0]) (z23, r30, 0) (v25, (g8_1 ++ (((x18 : Value).ownBlock.toList ++ []) ++ (((x21 : Value).ownBlock.toList ++ []) ++ [])))) ⟨rfl, rfl, rfl, rfl, rfl, rfl, trivial⟩ [9, 11, 7] rfl rfl (fun s32 g33 => ?_) (fun s32 g33 => ?_)
    · obtain ⟨g33_0, g33_1⟩ := g33
      unfold F_impl_rewritesToDominoes_L2
      refine J_seq ?_
      refine J_region ?_
      refine JL_q (wants_none rfl) rfl (ex_lss rfl rfl) ?_
      refine JL_nil ?_
      refine N_then ?_
      refine J_seq ?_
      refine J_if rfl (fun h34 => ?_) (fun h34 => ?_)
      · refine J_skip ?_
        refine N_then ?_
        refine J_seq ?_
        refine J_block ?_
        refine J_seq ?_
        refine J_region ?_
        refine JL_bnd fun y35 hy36 => ?_
        refine JL_st (wants_none rfl) rfl (st_index 2 Try.underlying54 ti_107 rfl rfl rfl hy36) (fun q37 => ?_)
        refine JL_st (wants_none rfl) rfl (st_load_pt_o 0 (GRewrite.opens _) ti_107 rfl rfl) (fun v38 => ?_)
        refine JL_st (wants_none rfl) rfl (st_alloc zi_107 rfl) (fun b39 => ?_)
        refine JL_sk (wants_none rfl) (sk_store_bx' 0 ti_107 rfl rfl (fun w hh => (cv_aggs ⟨(hh.cv 1 rfl), (hh.cv 2 rfl), trivial⟩)) rfl rfl rfl rfl) ?_
        refine JL_nil ?_
        refine N_then ?_
        refine J_seq ?_
        refine J_region ?_
        refine JL_q (wants_none rfl) rfl (ex_move rfl) ?_
        refine JL_q (wants_none rfl) rfl (ex_move rfl) ?_
        refine JL_cond (fun h40 => ?_) (fun h40 => ?_)
        · refine JL_q (wants_some rfl rfl rfl h40) rfl (ex_fieldAddr fi_107_0 rfl rfl) ?_
          refine JL_q (wants_some rfl rfl rfl h40) rfl (ex_load_bx 0 ti_31 rfl rfl rfl) ?_
          refine JL_q (wants_some rfl rfl rfl h40) rfl (ex_fieldAddr fi_107_1 rfl rfl) ?_
          refine JL_q (wants_some rfl rfl rfl h40) rfl (ex_load_bx 0 ti_31 rfl rfl rfl) ?_
          refine JL_st (wants_some rfl rfl rfl h40) rfl (st_buildSlice (vs := [v38.1, v38.2]) ([y35.From, y35.To] : List (List Int)) Try.underlying22 ti_31 zi_31 rfl rfl rfl (fun w hh => ⟨(hh.rd 1 rfl), (hh.rd 2 rfl), trivial⟩)) (fun b41 => ?_)
          refine JL_bnd fun r42 hr43 => ?_
          refine JL_call (wants_some rfl rfl rfl h40) rfl Try.call118 rfl (Ca_self (fun _ => rfl) fun w hh => c_impl_joined _ w (fun _ hk => hk.elim) _ _ (hh.ow0 0 rfl) _ hr43) (fun x44 => ?_)
          refine JL_bnd fun r45 hr46 => ?_
          refine JL_call (wants_some rfl rfl rfl h40) rfl Try.call153 rfl (Ca_of0 fun w hh => c_impl_allWithin _ w (fun _ hk => hk.elim) _ _ (hh.ow0 0 rfl) _ _ _ hr46) (fun _ => ?_)
          refine JL_q (wants_none rfl) rfl (ex_pick_true rfl h40 rfl) ?_
          refine JL_q (wants_none rfl) rfl (ex_assign rfl) ?_
          refine JL_nil ?_
          refine N_then ?_
          refine J_draw [7] (by kernel_rfl) ?_
          refine JP_take (i := 0) [0, 1, 2, 3, 4, 5, 6, 8] [7] rfl (by kernel_rfl) (by kernel_rfl) (by kernel_rfl) rfl rfl (wants_none rfl) rfl (ex_move rfl) ?_
          refine JP_take (i := 1) [0, 1, 2, 3, 4, 5, 6, 8] [7] rfl (by kernel_rfl) (by kernel_rfl) (by kernel_rfl) rfl rfl (wants_none rfl) rfl (ex_fieldAddr fi_107_0 rfl rfl) ?_
          refine JP_take (i := 2) [0, 1, 2, 3, 4, 5, 6, 8] [7] rfl (by kernel_rfl) (by kernel_rfl) (by kernel_rfl) rfl rfl (wants_none rfl) rfl (ex_load_bx 2 ti_31 rfl rfl rfl) ?_
          refine JP_take (i := 4) [0, 1, 2, 3, 4, 5, 6, 8] [7] rfl (by kernel_rfl) (by kernel_rfl) (by kernel_rfl) rfl rfl (wants_none rfl) rfl (ex_fieldAddr fi_107_1 rfl rfl) ?_
          refine JP_take (i := 5) [0, 1, 2, 3, 4, 5, 6, 8] [7] rfl (by kernel_rfl) (by kernel_rfl) (by kernel_rfl) rfl rfl (wants_none rfl) rfl (ex_load_bx 2 ti_31 rfl rfl rfl) ?_
          refine JP_go [0, 1, 2, 3, 4, 5, 6, 8] [7] rfl rfl rfl (fun w48 h1_49 hp47 => ?_)
          refine JD_bnd fun r50 hr51 => ?_
          refine JD_one (i := 3) (by kernel_rfl) ?_
          refine JO_call rfl (wants_none rfl) rfl Try.call152 rfl (Ca_self (fun _ => rfl) fun w hh => c_slices_Clone_Sint64_int64 _ w (fun _ hk => hk.elim) _ _ (hh.rd0 3 rfl) _ hr51) (fun x52 => ?_)
          refine JD_bnd fun r53 hr54 => ?_
          refine JD_one (i := 6) (by kernel_rfl) ?_
          refine JO_call rfl (wants_none rfl) rfl Try.call152 rfl (Ca_self (fun _ => rfl) fun w hh => c_slices_Clone_Sint64_int64 _ w (fun _ hk => hk.elim) _ _ (hh.rd0 5 rfl) _ hr54) (fun x55 => ?_)
          refine JD_one (i := 7) (by kernel_rfl) ?_
          refine JO_q rfl (wants_none rfl) rfl (ex_build si_113 rfl (.cons fi_113_0 rfl rfl (.cons fi_113_1 rfl rfl .nil)) (fun w hh => ⟨(hh.cv_ow 1 rfl), (hh.cv_ow 0 rfl), trivial⟩)) ?_
          refine JD_one (i := 8) (by kernel_rfl) ?_
          refine JO_ctx (fun w hh => hh.tokf 1 rfl rfl) (tokf_owns (i := 1) rfl) ?_
          refine JO_ctx (fun w hh => hh.tokf 1 rfl rfl) (tokf_owns (i := 1) rfl) ?_
          refine JO_st rfl (wants_none rfl) rfl (st_buildSlice_od (vs := [.agg #[x52, x55]]) (B := (((x52 : Value).ownBlock.toList ++ []) ++ (((x55 : Value).ownBlock.toList ++ []) ++ []))) ([(⟨r50, r53⟩ : GDomino)] : List GDomino) [1, 0] Try.underlying51 ti_113 zi_113 rfl rfl rfl rfl rfl (fun w hh => (dwv_cons (GDomino.dw (hh.dw 1 rfl) (hh.dw 0 rfl)) dwv_nil))) (fun _ hk => nomatch hk) (fun b56 => ?_)
          refine JD_bnd fun z57 hz58 => ?_
          refine JD_one (i := 9) (by kernel_rfl) ?_
          refine JO_st rfl (wants_none rfl) rfl (st_append_od 12 0 Try.underlying51 ti_113 zi_113 rfl bi_113 rfl rfl rfl rfl rfl rfl hz58) (sub_od 0 rfl) (fun v59 => ?_)
          refine JD_take (i := 10) hp47 rfl (by kernel_rfl) (by kernel_rfl) (by kernel_rfl) (wants_none rfl) rfl (ex_assign rfl) ?_
          refine JD_done (by kernel_rfl) ?_
          refine N_block ?_
          refine N_then ?_
          refine J_region ?_
          refine JL_q (wants_none rfl) rfl (ex_add rfl rfl) ?_
          refine JL_q (wants_none rfl) rfl (ex_move rfl) ?_
          refine JL_nil ?_
          exact N_next' (v59, (g33_1 ++ (((x52 : Value).ownBlock.toList ++ []) ++ (((x55 : Value).ownBlock.toList ++ []) ++ [])))) ⟨rfl, rfl, rfl, rfl, rfl, rfl, trivial⟩ [11, 12, 13] rfl rfl
        · refine JL_passed rfl rfl rfl h40 ?_
          refine JL_passed rfl rfl rfl h40 ?_
          refine JL_passed rfl rfl rfl h40 ?_
          refine JL_passed rfl rfl rfl h40 ?_
          refine JL_passed rfl rfl rfl h40 ?_
          refine JL_passed rfl rfl rfl h40 ?_
          refine JL_passed rfl rfl rfl h40 ?_
          refine JL_q (wants_none rfl) rfl (ex_pick_false rfl h40 rfl) ?_
          refine JL_q (wants_none rfl) rfl (ex_assign rfl) ?_
          refine JL_nil ?_
          refine N_then ?_
          refine J_draw [5] (by kernel_rfl) ?_
          refine JP_take (i := 0) [0, 1, 2, 3, 4, 6] [5] rfl (by kernel_rfl) (by kernel_rfl) (by kernel_rfl) rfl rfl (wants_none rfl) rfl (ex_move rfl) ?_
          refine JP_take (i := 1) [0, 1, 2, 3, 4, 6] [5] rfl (by kernel_rfl) (by kernel_rfl) (by kernel_rfl) rfl rfl (wants_none rfl) rfl (ex_fieldAddr fi_107_0 rfl rfl) ?_
          refine JP_take (i := 2) [0, 1, 2, 3, 4, 6] [5] rfl (by kernel_rfl) (by kernel_rfl) (by kernel_rfl) rfl rfl (wants_none rfl) rfl (ex_load_bx 0 ti_31 rfl rfl rfl) ?_
          refine JP_take (i := 4) [0, 1, 2, 3, 4, 6] [5] rfl (by kernel_rfl) (by kernel_rfl) (by kernel_rfl) rfl rfl (wants_none rfl) rfl (ex_fieldAddr fi_107_1 rfl rfl) ?_
          refine JP_take (i := 5) [0, 1, 2, 3, 4, 6] [5] rfl (by kernel_rfl) (by kernel_rfl) (by kernel_rfl) rfl rfl (wants_none rfl) rfl (ex_load_bx 0 ti_31 rfl rfl rfl) ?_
          refine JP_go [0, 1, 2, 3, 4, 6] [5] rfl rfl rfl (fun w61 h1_62 hp60 => ?_)
          refine JD_bnd fun r63 hr64 => ?_
          refine JD_one (i := 3) (by kernel_rfl) ?_
          refine JO_call rfl (wants_none rfl) rfl Try.call152 rfl (Ca_self (fun _ => rfl) fun w hh => c_slices_Clone_Sint64_int64 _ w (fun _ hk => hk.elim) _ _ (hh.rd0 1 rfl) _ hr64) (fun x65 => ?_)
          refine JD_bnd fun r66 hr67 => ?_
          refine JD_one (i := 6) (by kernel_rfl) ?_
          refine JO_call rfl (wants_none rfl) rfl Try.call152 rfl (Ca_self (fun _ => rfl) fun w hh => c_slices_Clone_Sint64_int64 _ w (fun _ hk => hk.elim) _ _ (hh.rd0 3 rfl) _ hr67) (fun x68 => ?_)
          refine JD_one (i := 7) (by kernel_rfl) ?_
          refine JO_q rfl (wants_none rfl) rfl (ex_build si_113 rfl (.cons fi_113_0 rfl rfl (.cons fi_113_1 rfl rfl .nil)) (fun w hh => ⟨(hh.cv_ow 1 rfl), (hh.cv_ow 0 rfl), trivial⟩)) ?_
          refine JD_one (i := 8) (by kernel_rfl) ?_
          refine JO_ctx (fun w hh => hh.tokf 1 rfl rfl) (tokf_owns (i := 1) rfl) ?_
          refine JO_ctx (fun w hh => hh.tokf 1 rfl rfl) (tokf_owns (i := 1) rfl) ?_
          refine JO_st rfl (wants_none rfl) rfl (st_buildSlice_od (vs := [.agg #[x65, x68]]) (B := (((x65 : Value).ownBlock.toList ++ []) ++ (((x68 : Value).ownBlock.toList ++ []) ++ []))) ([(⟨r63, r66⟩ : GDomino)] : List GDomino) [1, 0] Try.underlying51 ti_113 zi_113 rfl rfl rfl rfl rfl (fun w hh => (dwv_cons (GDomino.dw (hh.dw 1 rfl) (hh.dw 0 rfl)) dwv_nil))) (fun _ hk => nomatch hk) (fun b69 => ?_)
          refine JD_bnd fun z70 hz71 => ?_
          refine JD_one (i := 9) (by kernel_rfl) ?_
          refine JO_st rfl (wants_none rfl) rfl (st_append_od 10 0 Try.underlying51 ti_113 zi_113 rfl bi_113 rfl rfl rfl rfl rfl rfl hz71) (sub_od 0 rfl) (fun v72 => ?_)
          refine JD_take (i := 10) hp60 rfl (by kernel_rfl) (by kernel_rfl) (by kernel_rfl) (wants_none rfl) rfl (ex_assign rfl) ?_
          refine JD_done (by kernel_rfl) ?_
          refine N_block ?_
          refine N_then ?_
          refine J_region ?_
          refine JL_q (wants_none rfl) rfl (ex_add rfl rfl) ?_
          refine JL_q (wants_none rfl) rfl (ex_move rfl) ?_
          refine JL_nil ?_
          exact N_next' (v72, (g33_1 ++ (((x65 : Value).ownBlock.toList ++ []) ++ (((x68 : Value).ownBlock.toList ++ []) ++ [])))) ⟨rfl, rfl, rfl, rfl, rfl, rfl, trivial⟩ [9, 10, 11] rfl rfl
      · refine J_exit ?_
        refine N_then_exit ?_
        exact N_break' (g33_0, g33_1) ⟨rfl, rfl, rfl, rfl, rfl, rfl, trivial⟩ [0, 1, 2] rfl rfl
    · obtain ⟨g33_0, g33_1⟩ := g33
      refine N_then ?_
      refine J_seq ?_
      refine J_region ?_
      refine JL_q (wants_none rfl) rfl (ex_move rfl) ?_
      refine JL_q (wants_none rfl) rfl (ex_move rfl) ?_
      refine JL_st (wants_none rfl) rfl (st_buildSlice (vs := [.int .i64 6, .int .i64 7]) ([6, 7] : List Int) Try.underlying31 ti_2 zi_2 rfl rfl rfl (fun w hh => ⟨(Rd.mk_int _ _ _), (Rd.mk_int _ _ _), trivial⟩)) (fun b73 => ?_)
      refine JL_ctx (fun w hh => hh.tokf 0 rfl rfl) ?_
      refine JL_st (wants_none rfl) rfl (st_buildSlice (vs := [v2_, (.slice (some ⟨b73, 0, none⟩) 2 2)]) ([p2, ([6, 7] : List Int)] : List (List Int)) Try.underlying22 ti_31 zi_31 rfl rfl rfl (fun w hh => ⟨(hh.rd 2 rfl), (hh.rd 1 rfl), trivial⟩)) (fun b74 => ?_)
      refine JL_bnd fun r75 hr76 => ?_
      refine JL_call (wants_none rfl) rfl Try.call118 rfl (Ca_self (fun _ => rfl) fun w hh => c_impl_joined _ w (fun _ hk => hk.elim) _ _ (hh.ow0 0 rfl) _ hr76) (fun x77 => ?_)
      refine JL_st (wants_none rfl) rfl (st_buildSlice (vs := [.int .i64 7]) ([7] : List Int) Try.underlying31 ti_2 zi_2 rfl rfl rfl (fun w hh => ⟨(Rd.mk_int _ _ _), trivial⟩)) (fun b78 => ?_)
      refine JL_q (wants_none rfl) rfl (ex_build si_113 rfl (.cons fi_113_0 rfl rfl (.cons fi_113_1 rfl rfl .nil)) (fun w hh => ⟨(hh.cv_ow 1 rfl), (hh.cv_ow 0 rfl), trivial⟩)) ?_
      refine JL_ctx (fun w hh => hh.tokf 1 rfl rfl) ?_
      refine JL_ctx (fun w hh => hh.tokf 1 rfl rfl) ?_
      refine JL_st (wants_none rfl) rfl (st_buildSlice_od (vs := [.agg #[x77, (.slice (some ⟨b78, 0, none⟩) 1 1)]]) (B := (((x77 : Value).ownBlock.toList ++ []) ++ ((((.slice (some ⟨b78, 0, none⟩) 1 1) : Value).ownBlock.toList ++ []) ++ []))) ([(⟨r75, ([7] : List Int)⟩ : GDomino)] : List GDomino) [1, 0] Try.underlying51 ti_113 zi_113 rfl rfl rfl rfl rfl (fun w hh => (dwv_cons (GDomino.dw (hh.dw 1 rfl) (hh.dw 0 rfl)) dwv_nil))) (fun b79 => ?_)
      refine JL_bnd fun z80 hz81 => ?_
      refine JL_st (wants_none rfl) rfl (st_append_od 9 0 Try.underlying51 ti_113 zi_113 rfl bi_113 rfl rfl rfl rfl rfl rfl hz81) (fun v82 => ?_)
      refine JL_q (wants_none rfl) rfl (ex_assign rfl) ?_
      refine JL_nil ?_
      refine N_then ?_
      refine J_seq ?_
      refine J_block ?_
      refine J_seq ?_
      refine J_region ?_
      refine JL_q (wants_none rfl) rfl (ex_move rfl) ?_
      refine JL_q (wants_none rfl) rfl (ex_not rfl) ?_
      refine JL_q (wants_none rfl) rfl (ex_assign rfl) ?_
      refine JL_nil ?_
      refine N_then ?_
      refine J_if rfl (fun h83 => ?_) (fun h83 => ?_)
      · refine J_seq ?_
        refine J_region ?_
        refine JL_q (wants_none rfl) rfl (ex_assign rfl) ?_
        refine JL_q (wants_none rfl) rfl (ex_assign rfl) ?_
        refine JL_nil ?_
        refine N_then ?_
        refine J_ret ?_
        refine N_block_ret ?_
        refine N_then_ret ?_
        refine N_ctx (fun w hh => SH.od_nil (α := GDomino) 113 hh) ?_
        exact N_ret2 rfl (rv_tmp rfl) (rv_tmp rfl) (fun w hh => ⟨((.slice none 0 0 : Value), ([] : List Nat)), rfl, hh.sel [0] rfl⟩)
      · refine J_seq ?_
        refine J_region ?_
        refine JL_q (wants_none rfl) rfl (ex_move rfl) ?_
        refine JL_bnd fun r84 hr85 => ?_
        refine JL_call (wants_none rfl) rfl Try.call167 rfl (Ca_of0 fun w hh => c_impl_ValidDominoes _ w (fun _ hk => hk.elim) _ _ (hh.od0 9 rfl) _ hr85) (fun _ => ?_)
        refine JL_q (wants_none rfl) rfl (ex_not rfl) ?_
        refine JL_q (wants_none rfl) rfl (ex_assign rfl) ?_
        refine JL_nil ?_
        refine N_then ?_
        refine J_if rfl (fun h86 => ?_) (fun h86 => ?_)
        · refine J_seq ?_
          refine J_region ?_
          refine JL_q (wants_none rfl) rfl (ex_assign rfl) ?_
          refine JL_q (wants_none rfl) rfl (ex_assign rfl) ?_
          refine JL_nil ?_
          refine N_then ?_
          refine J_ret ?_
          refine N_block_ret ?_
          refine N_then_ret ?_
          refine N_ctx (fun w hh => SH.od_nil (α := GDomino) 113 hh) ?_
          exact N_ret2 rfl (rv_tmp rfl) (rv_tmp rfl) (fun w hh => ⟨((.slice none 0 0 : Value), ([] : List Nat)), rfl, hh.sel [0] rfl⟩)
        · refine J_skip ?_
          refine N_block ?_
          refine N_then ?_
          refine J_seq ?_
          refine J_region ?_
          refine JL_q (wants_none rfl) rfl (ex_move rfl) ?_
          refine JL_q (wants_none rfl) rfl (ex_assign rfl) ?_
          refine JL_q (wants_none rfl) rfl (ex_assign rfl) ?_
          refine JL_nil ?_
          refine N_then ?_
          refine J_ret ?_
          exact N_ret2 rfl (rv_tmp rfl) (rv_tmp rfl) (fun w hh => ⟨(v82, (g33_1 ++ (((x77 : Value).ownBlock.toList ++ []) ++ ((((.slice (some ⟨b78, 0, none⟩) 1 1) : Value).ownBlock.toList ++ []) ++ [])))), rfl, hh.sel [9] rfl⟩)

set_option maxHeartbeats 4000000 in
theorem c_impl_RewritesToDominoes (A : Nat → Prop) (w : World) (hA : ∀ k, A k → k < w.heap.size) (v0_ : Value) (p0 : (List GRewrite)) (hp0 : Rd A w v0_ p0) (v1_ : Value) (p1 : (List Int)) (hp1 : Rd A w v1_ p1) (v2_ : Value) (p2 : (List Int)) (hp2 : Rd A w v2_ p2) (r : (List GDomino) × Int) (hr : F_impl_RewritesToDominoes p0 p1 p2 = some r) :
    Con Try.prog 37 [v0_, v1_, v2_] A w (fun x_ : Value × List Nat => .tuple #[x_.1, .int .i64 r.2]) (fun x_ => [.od 113 x_.1 r.1 x_.2]) := by
  refine Con_of (v := fun (r : (List GDomino) × Int) (x_ : Value × List Nat) => .tuple #[x_.1, .int .i64 r.2]) (fs := fun r x_ => [.od 113 x_.1 r.1 x_.2]) Try.func37 rfl Try.ntmps37 rfl ((((SH.start hA).start_rd rfl hp0).start_rd rfl hp1).start_rd rfl hp2) rfl ?_ hr
  unfold F_impl_RewritesToDominoes
  refine J_seq ?_
  refine J_region ?_
  refine JL_q (wants_none rfl) rfl (ex_assign rfl) ?_
  refine JL_q (wants_none rfl) rfl (ex_assign rfl) ?_
  refine JL_nil ?_
  refine N_then ?_
  refine J_seq ?_
  refine J_seq ?_
  refine J_region ?_
  refine JL_q (wants_none rfl) rfl (ex_move rfl) ?_
  refine JL_bnd fun r1 hr2 => ?_
  refine JL_call (wants_none rfl) rfl Try.call90 rfl (Ca_of0 fun w hh => c_impl_ValidRewrites _ w (fun _ hk => hk.elim) _ _ (hh.rd0 2 rfl) _ hr2) (fun _ => ?_)
  refine JL_q (wants_none rfl) rfl (ex_not rfl) ?_
  refine JL_q (wants_none rfl) rfl (ex_move rfl) ?_
  refine JL_cond (fun h3 => ?_) (fun h3 => ?_)
  · refine JL_passed rfl rfl rfl h3 ?_
    refine JL_passed rfl rfl rfl h3 ?_
    refine JL_passed rfl rfl rfl h3 ?_
    refine JL_passed rfl rfl rfl h3 ?_
    refine JL_passed rfl rfl rfl h3 ?_
    refine JL_q (wants_none rfl) rfl (ex_pick_true rfl h3 rfl) ?_
    refine JL_nil ?_
    refine N_then ?_
    refine J_if_true rfl rfl ?_
    refine J_seq ?_
    refine J_region ?_
    refine JL_q (wants_none rfl) rfl (ex_assign rfl) ?_
    refine JL_q (wants_none rfl) rfl (ex_assign rfl) ?_
    refine JL_nil ?_
    refine N_then ?_
    refine J_ret ?_
    refine N_then_ret ?_
    refine N_ctx (fun w hh => SH.od_nil (α := GDomino) 113 hh) ?_
    exact N_ret2 rfl (rv_tmp rfl) (rv_tmp rfl) (fun w hh => ⟨((.slice none 0 0 : Value), ([] : List Nat)), rfl, hh.sel [0] rfl⟩)
  · refine JL_q (wants_some rfl rfl rfl h3) rfl (ex_move rfl) ?_
    refine JL_q (wants_some rfl rfl rfl h3) rfl (ex_move rfl) ?_
    refine JL_st (wants_some rfl rfl rfl h3) rfl (st_buildSlice (vs := [v1_, v2_]) ([p1, p2] : List (List Int)) Try.underlying22 ti_31 zi_31 rfl rfl rfl (fun w hh => ⟨(hh.rd 1 rfl), (hh.rd 0 rfl), trivial⟩)) (fun b4 => ?_)
    refine JL_bnd fun r5 hr6 => ?_
    refine JL_call (wants_some rfl rfl rfl h3) rfl Try.call91 rfl (Ca_of0 fun w hh => c_impl_areWords _ w (fun _ hk => hk.elim) _ _ (hh.ow0 0 rfl) _ hr6) (fun _ => ?_)
    refine JL_q (wants_some rfl rfl rfl h3) rfl (ex_not rfl) ?_
    refine JL_q (wants_none rfl) rfl (ex_pick_false rfl h3 rfl) ?_
    refine JL_nil ?_
    refine N_then ?_
    refine J_if rfl (fun h7 => ?_) (fun h7 => ?_)
    · refine J_seq ?_
      refine J_region ?_
      refine JL_q (wants_none rfl) rfl (ex_assign rfl) ?_
      refine JL_q (wants_none rfl) rfl (ex_assign rfl) ?_
      refine JL_nil ?_
      refine N_then ?_
      refine J_ret ?_
      refine N_then_ret ?_
      refine N_ctx (fun w hh => SH.od_nil (α := GDomino) 113 hh) ?_
      exact N_ret2 rfl (rv_tmp rfl) (rv_tmp rfl) (fun w hh => ⟨((.slice none 0 0 : Value), ([] : List Nat)), rfl, hh.sel [0] rfl⟩)
    · refine J_skip ?_
      refine N_then ?_
      refine J_seq ?_
      refine J_region ?_
      refine JL_q (wants_none rfl) rfl (ex_move rfl) ?_
      refine JL_q (wants_none rfl) rfl (ex_move rfl) ?_
      refine JL_q (wants_none rfl) rfl (ex_move rfl) ?_
      refine JL_bnd fun r8 hr9 => ?_
      refine JL_call (wants_none rfl) rfl Try.call92 rfl (Ca_self (fun _ => rfl) fun w hh => c_impl_rewritesToDominoes _ w (fun _ hk => hk.elim) _ _ (hh.rd0 3 rfl) _ _ (hh.rd0 2 rfl) _ _ (hh.rd0 1 rfl) _ hr9) (fun x10 => ?_)
      obtain ⟨x10_0, x10_1⟩ := x10
      refine JL_q (wants_none rfl) rfl (ex_extract rfl rfl) ?_
      refine JL_q (wants_none rfl) rfl (ex_extract rfl rfl) ?_
      refine JL_q (wants_none rfl) rfl (ex_assign rfl) ?_
      refine JL_q (wants_none rfl) rfl (ex_assign rfl) ?_
      refine JL_nil ?_
      refine N_then ?_
      refine J_ret ?_
      exact N_ret2 rfl (rv_tmp rfl) (rv_tmp rfl) (fun w hh => ⟨(x10_0, x10_1), rfl, hh.sel [0] rfl⟩)

end Go.Proofs.Ytfklpjdenigohaa
