/-
  Each function of the program computes what its plain function says: printed by program. No condition.
-/
import Derived.Test.YtgjihbmpbigilaaFn
import Derived.Test.YtgjihbmpbigilaaInf
import Derived.Test.YtgjihbmpbigilaaCon1
import Derived.Test.YtgjihbmpbigilaaCon2
import Derived.Test.YtgjihbmpbigilaaCon3
import Derived.Test.YtgjihbmpbigilaaCon6
import Derived.Test.YtgjihbmpbigilaaCon7
namespace Go.Proofs.Ytgjihbmpbigilaa
open Go Go.Tc Go.Fn
set_option linter.unusedVariables false

theorem c_spec_TopOf (A : Nat → Prop) (w : World) (hA : ∀ k, A k → k < w.heap.size) (v0_ : Value) (p0 : (List GTile)) (hp0 : Rd A w v0_ p0) (v1_ : Value) (p1 : (List Int)) (hp1 : Rd A w v1_ p1) (v2_ : Value) (p2 : (List (List Int))) (hp2 : Rd A w v2_ p2) (r : (List Int) × Int) (hr : F_spec_TopOf p0 p1 p2 = some r) :
    Con Try.prog 43 [v0_, v1_, v2_] A w (fun x_ : Value => .tuple #[x_, .int .i64 r.2]) (fun x_ => [.ow 2 x_ r.1]) := by
  refine Con_of (v := fun (r : (List Int) × Int) (x_ : Value) => .tuple #[x_, .int .i64 r.2]) (fs := fun r x_ => [.ow 2 x_ r.1]) Try.func43 rfl Try.ntmps43 rfl ((((SH.start hA).start_rd rfl hp0).start_rd rfl hp1).start_rd rfl hp2) rfl ?_ hr
  unfold F_spec_TopOf
  refine J_seq ?_
  refine J_region ?_
  refine JL_q (wants_none rfl) rfl (ex_assign rfl) ?_
  refine JL_q (wants_none rfl) rfl (ex_assign rfl) ?_
  refine JL_nil ?_
  refine N_then ?_
  refine J_seq ?_
  refine J_seq ?_
  refine J_region ?_
  refine JL_q (wants_none rfl) rfl (ex_move rfl) ?_
  refine JL_bnd fun r1 hr2 => ?_
  refine JL_call (wants_none rfl) rfl Try.call69 rfl (Ca_of0 fun w hh => c_spec_l33Is _ w (fun _ hk => hk.elim) _ _ (hh.rd0 2 rfl) _ hr2) (fun _ => ?_)
  refine JL_q (wants_none rfl) rfl (ex_not rfl) ?_
  refine JL_nil ?_
  refine N_then ?_
  refine J_if rfl (fun h3 => ?_) (fun h3 => ?_)
  · refine J_seq ?_
    refine J_region ?_
    refine JL_q (wants_none rfl) rfl (ex_assign rfl) ?_
    refine JL_q (wants_none rfl) rfl (ex_assign rfl) ?_
    refine JL_nil ?_
    refine N_then ?_
    refine J_ret ?_
    refine N_then_ret ?_
    refine N_ctx (fun w hh => SH.ow_nil (α := Int) 2 hh) ?_
    exact N_ret2 rfl (rv_tmp rfl) (rv_tmp rfl) (fun w hh => ⟨(.slice none 0 0 : Value), rfl, hh.sel [0] rfl⟩)
  · refine J_skip ?_
    refine N_then ?_
    refine J_seq ?_
    refine J_seq ?_
    refine J_region ?_
    refine JL_q (wants_none rfl) rfl (ex_move rfl) ?_
    refine JL_bnd fun r4 hr5 => ?_
    refine JL_call (wants_none rfl) rfl Try.call81 rfl (Ca_of0 fun w hh => c_spec_l33Frame _ w (fun _ hk => hk.elim) _ _ (hh.rd0 1 rfl) _ hr5) (fun _ => ?_)
    refine JL_q (wants_none rfl) rfl (ex_not rfl) ?_
    refine JL_nil ?_
    refine N_then ?_
    refine J_if rfl (fun h6 => ?_) (fun h6 => ?_)
    · refine J_seq ?_
      refine J_region ?_
      refine JL_q (wants_none rfl) rfl (ex_assign rfl) ?_
      refine JL_q (wants_none rfl) rfl (ex_assign rfl) ?_
      refine JL_nil ?_
      refine N_then ?_
      refine J_ret ?_
      refine N_then_ret ?_
      refine N_ctx (fun w hh => SH.ow_nil (α := Int) 2 hh) ?_
      exact N_ret2 rfl (rv_tmp rfl) (rv_tmp rfl) (fun w hh => ⟨(.slice none 0 0 : Value), rfl, hh.sel [0] rfl⟩)
    · refine J_skip ?_
      refine N_then ?_
      refine J_seq ?_
      refine J_region ?_
      refine JL_q (wants_none rfl) rfl (ex_move rfl) ?_
      refine JL_q (wants_none rfl) rfl (ex_move rfl) ?_
      refine JL_q (wants_none rfl) rfl (ex_move rfl) ?_
      refine JL_bnd fun r7 hr8 => ?_
      refine JL_call (wants_none rfl) rfl Try.call82 rfl (Ca_self (fun _ => rfl) fun w hh => c_spec_l33Top _ w (fun _ hk => hk.elim) _ _ (hh.rd0 2 rfl) _ _ (hh.rd0 1 rfl) _ _ (hh.rd0 0 rfl) _ hr8) (fun x9 => ?_)
      refine JL_q (wants_none rfl) rfl (ex_move rfl) ?_
      refine JL_q (wants_none rfl) rfl (ex_extract rfl rfl) ?_
      refine JL_q (wants_none rfl) rfl (ex_extract rfl rfl) ?_
      refine JL_q (wants_none rfl) rfl (ex_assign rfl) ?_
      refine JL_q (wants_none rfl) rfl (ex_assign rfl) ?_
      refine JL_nil ?_
      refine N_then ?_
      refine J_seq ?_
      refine J_seq ?_
      refine J_region ?_
      refine JL_q (wants_none rfl) rfl (ex_move rfl) ?_
      refine JL_q (wants_none rfl) rfl (ex_not rfl) ?_
      refine JL_nil ?_
      refine N_then ?_
      refine J_if rfl (fun h10 => ?_) (fun h10 => ?_)
      · refine J_seq ?_
        refine J_region ?_
        refine JL_q (wants_none rfl) rfl (ex_assign rfl) ?_
        refine JL_q (wants_none rfl) rfl (ex_assign rfl) ?_
        refine JL_nil ?_
        refine N_then ?_
        refine J_ret ?_
        refine N_then_ret ?_
        refine N_ctx (fun w hh => SH.ow_nil (α := Int) 2 hh) ?_
        exact N_ret2 rfl (rv_tmp rfl) (rv_tmp rfl) (fun w hh => ⟨(.slice none 0 0 : Value), rfl, hh.sel [0] rfl⟩)
      · refine J_skip ?_
        refine N_then ?_
        refine J_seq ?_
        refine J_region ?_
        refine JL_q (wants_none rfl) rfl (ex_move rfl) ?_
        refine JL_q (wants_none rfl) rfl (ex_assign rfl) ?_
        refine JL_q (wants_none rfl) rfl (ex_assign rfl) ?_
        refine JL_nil ?_
        refine N_then ?_
        refine J_ret ?_
        exact N_ret2 rfl (rv_tmp rfl) (rv_tmp rfl) (fun w hh => ⟨x9, rfl, hh.sel [0] rfl⟩)

theorem c_impl_TopOf (A : Nat → Prop) (w : World) (hA : ∀ k, A k → k < w.heap.size) (v0_ : Value) (p0 : (List GTile)) (hp0 : Rd A w v0_ p0) (v1_ : Value) (p1 : (List Int)) (hp1 : Rd A w v1_ p1) (v2_ : Value) (p2 : (List (List Int))) (hp2 : Rd A w v2_ p2) (r : (List Int) × Int) (hr : F_impl_TopOf p0 p1 p2 = some r) :
    Con Try.prog 44 [v0_, v1_, v2_] A w (fun x_ : Value × List Nat => .tuple #[x_.1, .int .i64 r.2]) (fun x_ => [.tkn x_.1 r.1 x_.2]) := by
  refine Con_of (v := fun (r : (List Int) × Int) (x_ : Value × List Nat) => .tuple #[x_.1, .int .i64 r.2]) (fs := fun r x_ => [.tkn x_.1 r.1 x_.2]) Try.func44 rfl Try.ntmps44 rfl ((((SH.start hA).start_rd rfl hp0).start_rd rfl hp1).start_rd rfl hp2) rfl ?_ hr
  unfold F_impl_TopOf
  refine J_seq ?_
  refine J_region ?_
  refine JL_q (wants_none rfl) rfl (ex_assign rfl) ?_
  refine JL_q (wants_none rfl) rfl (ex_assign rfl) ?_
  refine JL_nil ?_
  refine N_then ?_
  refine J_seq ?_
  refine J_seq ?_
  refine J_region ?_
  refine JL_q (wants_none rfl) rfl (ex_move rfl) ?_
  refine JL_bnd fun r1 hr2 => ?_
  refine JL_call (wants_none rfl) rfl Try.call18 rfl (Ca_of0 fun w hh => c_impl_ValidTiles _ w (fun _ hk => hk.elim) _ _ (hh.rd0 2 rfl) _ hr2) (fun _ => ?_)
  refine JL_q (wants_none rfl) rfl (ex_not rfl) ?_
  refine JL_nil ?_
  refine N_then ?_
  refine J_if rfl (fun h3 => ?_) (fun h3 => ?_)
  · refine J_seq ?_
    refine J_region ?_
    refine JL_q (wants_none rfl) rfl (ex_assign rfl) ?_
    refine JL_q (wants_none rfl) rfl (ex_assign rfl) ?_
    refine JL_nil ?_
    refine N_then ?_
    refine J_ret ?_
    refine N_then_ret ?_
    refine N_ctx (fun w hh => SH.ow_nil (α := Int) 2 hh) ?_
    refine N_ctx (fun w hh => hh.tokf 0 rfl rfl) ?_
    exact N_ret2 rfl (rv_tmp rfl) (rv_tmp rfl) (fun w hh => ⟨((.slice none 0 0 : Value), ((.slice none 0 0 : Value).ownBlock.toList ++ [])), rfl, hh.sel [0] rfl⟩)
  · refine J_skip ?_
    refine N_then ?_
    refine J_seq ?_
    refine J_seq ?_
    refine J_region ?_
    refine JL_q (wants_none rfl) rfl (ex_move rfl) ?_
    refine JL_bnd fun r4 hr5 => ?_
    refine JL_call (wants_none rfl) rfl Try.call83 rfl (Ca_of0 fun w hh => c_impl_isFrame _ w (fun _ hk => hk.elim) _ _ (hh.rd0 1 rfl) _ hr5) (fun _ => ?_)
    refine JL_q (wants_none rfl) rfl (ex_not rfl) ?_
    refine JL_nil ?_
    refine N_then ?_
    refine J_if rfl (fun h6 => ?_) (fun h6 => ?_)
    · refine J_seq ?_
      refine J_region ?_
      refine JL_q (wants_none rfl) rfl (ex_assign rfl) ?_
      refine JL_q (wants_none rfl) rfl (ex_assign rfl) ?_
      refine JL_nil ?_
      refine N_then ?_
      refine J_ret ?_
      refine N_then_ret ?_
      refine N_ctx (fun w hh => SH.ow_nil (α := Int) 2 hh) ?_
      refine N_ctx (fun w hh => hh.tokf 0 rfl rfl) ?_
      exact N_ret2 rfl (rv_tmp rfl) (rv_tmp rfl) (fun w hh => ⟨((.slice none 0 0 : Value), ((.slice none 0 0 : Value).ownBlock.toList ++ [])), rfl, hh.sel [0] rfl⟩)
    · refine J_skip ?_
      refine N_then ?_
      refine J_seq ?_
      refine J_region ?_
      refine JL_q (wants_none rfl) rfl (ex_move rfl) ?_
      refine JL_q (wants_none rfl) rfl (ex_move rfl) ?_
      refine JL_q (wants_none rfl) rfl (ex_move rfl) ?_
      refine JL_bnd fun r7 hr8 => ?_
      refine JL_call (wants_none rfl) rfl Try.call84 rfl (Ca_self (fun _ => rfl) fun w hh => c_impl_topsOf _ w (fun _ hk => hk.elim) _ _ (hh.rd0 2 rfl) _ _ (hh.rd0 1 rfl) _ _ (hh.rd0 0 rfl) _ hr8) (fun x9 => ?_)
      obtain ⟨x9_0, x9_1⟩ := x9
      refine JL_q (wants_none rfl) rfl (ex_move rfl) ?_
      refine JL_q (wants_none rfl) rfl (ex_extract rfl rfl) ?_
      refine JL_q (wants_none rfl) rfl (ex_extract rfl rfl) ?_
      refine JL_q (wants_none rfl) rfl (ex_assign rfl) ?_
      refine JL_q (wants_none rfl) rfl (ex_assign rfl) ?_
      refine JL_nil ?_
      refine N_then ?_
      refine J_seq ?_
      refine J_seq ?_
      refine J_region ?_
      refine JL_q (wants_none rfl) rfl (ex_move rfl) ?_
      refine JL_q (wants_none rfl) rfl (ex_not rfl) ?_
      refine JL_nil ?_
      refine N_then ?_
      refine J_if rfl (fun h10 => ?_) (fun h10 => ?_)
      · refine J_seq ?_
        refine J_region ?_
        refine JL_q (wants_none rfl) rfl (ex_assign rfl) ?_
        refine JL_q (wants_none rfl) rfl (ex_assign rfl) ?_
        refine JL_nil ?_
        refine N_then ?_
        refine J_ret ?_
        refine N_then_ret ?_
        refine N_ctx (fun w hh => SH.ow_nil (α := Int) 2 hh) ?_
        refine N_ctx (fun w hh => hh.tokf 0 rfl rfl) ?_
        exact N_ret2 rfl (rv_tmp rfl) (rv_tmp rfl) (fun w hh => ⟨((.slice none 0 0 : Value), ((.slice none 0 0 : Value).ownBlock.toList ++ [])), rfl, hh.sel [0] rfl⟩)
      · refine J_skip ?_
        refine N_then ?_
        refine J_seq ?_
        refine J_region ?_
        refine JL_q (wants_none rfl) rfl (ex_move rfl) ?_
        refine JL_q (wants_none rfl) rfl (ex_move rfl) ?_
        refine JL_q (wants_none rfl) rfl (ex_od 0 rfl (ex_len_ow 0 Try.underlying29 rfl rfl)) ?_
        refine JL_q (wants_none rfl) rfl (ex_sub rfl rfl) ?_
        refine JL_bnd fun y11 hy12 => ?_
        refine JL_od_open (v := x9_0) 0 rfl hy12 ?_; rintro b13 cap14 rfl
        refine JL_q (wants_none rfl) rfl (ex_od 0 rfl (ex_index_ow 0 Try.underlying29 ti_34 rfl rfl rfl hy12)) ?_
        refine JL_st (wants_none rfl) rfl (st_load_od_take 0 ti_34 rfl rfl hy12) (fun v15 => ?_)
        obtain ⟨v15_0, v15_1⟩ := v15
        refine JL_q (wants_none rfl) rfl (ex_assign rfl) ?_
        refine JL_q (wants_none rfl) rfl (ex_assign rfl) ?_
        refine JL_nil ?_
        refine N_then ?_
        refine J_ret ?_
        exact N_ret2 rfl (rv_tmp rfl) (rv_tmp rfl) (fun w hh => ⟨(v15_0, v15_1), rfl, hh.sel [1] rfl⟩)

theorem mk_laws_markTileS : MarkCon Try.prog 45 F_laws_markTileS := by
  intro w v0_ p0 B_ p1 r hd_ hn_ hr
  refine (ConM_of (vs := [v0_, .int .i64 p1]) (v := fun (r : Int × (List GTile)) (_ : Unit) => .int .i64 r.1) (fs := fun r _ => [mkr v0_ r.2 B_, rest w B_]) Try.func45 rfl Try.ntmps45 rfl (mark_start hd_ hn_) rfl ?_ hr).mono (fun e w2 h_ => by obtain ⟨_, he, hk⟩ := h_; exact ⟨he, mark_end hk⟩)
  unfold F_laws_markTileS
  refine J_seq ?_
  refine J_region ?_
  refine JL_q (wants_none rfl) rfl (ex_assign rfl) ?_
  refine JL_nil ?_
  refine N_then ?_
  refine J_seq ?_
  refine J_seq ?_
  refine J_region ?_
  refine JL_q (wants_none rfl) rfl (ex_assign rfl) ?_
  refine JL_nil ?_
  refine N_then ?_
  refine J_loop' (S := (List GTile) × Int × Int) (G := Unit) (F_laws_markTileS_L1) (fun s1 _ => [(0, v0_), (1, .int .i64 s1.2.1), (5, .int .i64 s1.2.2)]) (fun s1 _ => [rest w B_, mkr v0_ s1.1 B_]) (p0, p1, 0) () ⟨rfl, rfl, rfl, trivial⟩ [1, 0] rfl rfl (fun s1 g2 => ?_) (fun s1 g2 => ?_)
  · unfold F_laws_markTileS_L1
    refine J_seq ?_
    refine J_seq ?_
    refine J_region ?_
    refine JL_q (wants_none rfl) rfl (ex_move rfl) ?_
    refine JL_q (wants_none rfl) rfl (ex_move rfl) ?_
    refine JL_q (wants_none rfl) rfl (ex_len_mk 1 Try.underlying25 rfl rfl) ?_
    refine JL_q (wants_none rfl) rfl (ex_lss rfl rfl) ?_
    refine JL_nil ?_
    refine N_then ?_
    refine J_if rfl (fun h3 => ?_) (fun h3 => ?_)
    · refine J_skip ?_
      refine N_then ?_
      refine J_seq ?_
      refine J_block ?_
      refine J_seq ?_
      refine J_region ?_
      refine JL_q (wants_none rfl) rfl (ex_move rfl) ?_
      refine JL_q (wants_none rfl) rfl (ex_move rfl) ?_
      refine JL_q (wants_none rfl) rfl (ex_move rfl) ?_
      refine JL_bnd fun y4 hy5 => ?_
      refine JL_mk_open 1 rfl hy5 ?_; rintro b6 o8 cap7 rfl
      refine JL_q (wants_none rfl) rfl (ex_index_lit Try.underlying25 ti_89 rfl rfl hy5 (by first | rfl | simp)) ?_
      refine JL_q (wants_none rfl) rfl (ex_fieldAddr fi_89_0 rfl rfl) ?_
      refine JL_sk (wants_none rfl) (sk_store_mk 1 (GTile.fs_Left _) ti_2 rfl rfl rfl hy5) ?_
      refine JL_nil ?_
      refine N_then ?_
      refine J_seq ?_
      refine J_region ?_
      refine JL_q (wants_none rfl) rfl (ex_move rfl) ?_
      refine JL_q (wants_none rfl) rfl (ex_add rfl rfl) ?_
      refine JL_q (wants_none rfl) rfl (ex_assign rfl) ?_
      refine JL_nil ?_
      refine N_then ?_
      refine J_seq ?_
      refine J_region ?_
      refine JL_q (wants_none rfl) rfl (ex_move rfl) ?_
      refine JL_q (wants_none rfl) rfl (ex_move rfl) ?_
      refine JL_q (wants_none rfl) rfl (ex_move rfl) ?_
      refine JL_bnd fun y9 hy10 => ?_
      refine JL_q (wants_none rfl) rfl (ex_index_lit Try.underlying25 ti_89 rfl rfl hy10 (by first | rfl | simp)) ?_
      refine JL_q (wants_none rfl) rfl (ex_fieldAddr fi_89_1 rfl rfl) ?_
      refine JL_sk (wants_none rfl) (sk_store_mk 1 (GTile.fs_Bottom _) ti_2 rfl rfl rfl hy10) ?_
      refine JL_nil ?_
      refine N_then ?_
      refine J_seq ?_
      refine J_region ?_
      refine JL_q (wants_none rfl) rfl (ex_move rfl) ?_
      refine JL_q (wants_none rfl) rfl (ex_add rfl rfl) ?_
      refine JL_q (wants_none rfl) rfl (ex_assign rfl) ?_
      refine JL_nil ?_
      refine N_then ?_
      refine J_seq ?_
      refine J_region ?_
      refine JL_q (wants_none rfl) rfl (ex_move rfl) ?_
      refine JL_q (wants_none rfl) rfl (ex_move rfl) ?_
      refine JL_q (wants_none rfl) rfl (ex_move rfl) ?_
      refine JL_bnd fun y11 hy12 => ?_
      refine JL_q (wants_none rfl) rfl (ex_index_lit Try.underlying25 ti_89 rfl rfl hy12 (by first | rfl | simp)) ?_
      refine JL_q (wants_none rfl) rfl (ex_fieldAddr fi_89_2 rfl rfl) ?_
      refine JL_sk (wants_none rfl) (sk_store_mk 1 (GTile.fs_Right _) ti_2 rfl rfl rfl hy12) ?_
      refine JL_nil ?_
      refine N_then ?_
      refine J_seq ?_
      refine J_region ?_
      refine JL_q (wants_none rfl) rfl (ex_move rfl) ?_
      refine JL_q (wants_none rfl) rfl (ex_add rfl rfl) ?_
      refine JL_q (wants_none rfl) rfl (ex_assign rfl) ?_
      refine JL_nil ?_
      refine N_then ?_
      refine J_seq ?_
      refine J_region ?_
      refine JL_q (wants_none rfl) rfl (ex_move rfl) ?_
      refine JL_q (wants_none rfl) rfl (ex_move rfl) ?_
      refine JL_q (wants_none rfl) rfl (ex_move rfl) ?_
      refine JL_bnd fun y13 hy14 => ?_
      refine JL_q (wants_none rfl) rfl (ex_index_lit Try.underlying25 ti_89 rfl rfl hy14 (by first | rfl | simp)) ?_
      refine JL_q (wants_none rfl) rfl (ex_fieldAddr fi_89_3 rfl rfl) ?_
      refine JL_sk (wants_none rfl) (sk_store_mk 1 (GTile.fs_Top _) ti_2 rfl rfl rfl hy14) ?_
      refine JL_nil ?_
      refine N_then ?_
      refine J_region ?_
      refine JL_q (wants_none rfl) rfl (ex_move rfl) ?_
      refine JL_q (wants_none rfl) rfl (ex_add rfl rfl) ?_
      refine JL_q (wants_none rfl) rfl (ex_assign rfl) ?_
      refine JL_nil ?_
      refine N_block ?_
      refine N_then ?_
      refine J_region ?_
      refine JL_q (wants_none rfl) rfl (ex_move rfl) ?_
      refine JL_q (wants_none rfl) rfl (ex_add rfl rfl) ?_
      refine JL_q (wants_none rfl) rfl (ex_assign rfl) ?_
      refine JL_nil ?_
      exact N_next' () ⟨rfl, rfl, rfl, trivial⟩ [0, 1] rfl rfl
    · refine J_exit ?_
      refine N_then_exit ?_
      exact N_break' () ⟨rfl, rfl, rfl, trivial⟩ [0, 1] rfl rfl
  · refine N_then ?_
    refine J_seq ?_
    refine J_region ?_
    refine JL_q (wants_none rfl) rfl (ex_move rfl) ?_
    refine JL_q (wants_none rfl) rfl (ex_assign rfl) ?_
    refine JL_nil ?_
    refine N_then ?_
    refine J_ret ?_
    exact N_ret1 rfl (rv_tmp rfl) (fun w hh => ⟨(), rfl, hh.sel [1, 0] rfl⟩)

theorem c_laws_FnExactTopOf (A : Nat → Prop) (w : World) (hA : ∀ k, A k → k < w.heap.size) (v0_ : Value) (p0 : (List GTile)) (hp0 : Rd A w v0_ p0) (v1_ : Value) (p1 : (List Int)) (hp1 : Rd A w v1_ p1) (v2_ : Value) (p2 : (List (List Int))) (hp2 : Rd A w v2_ p2) (r : Bool) (hr : F_laws_FnExactTopOf p0 p1 p2 = some r) :
    Con Try.prog 9 [v0_, v1_, v2_] A w (fun x_ : Unit => .bool r) (fun x_ => []) := by
  refine Con_of (v := fun (r : Bool) (x_ : Unit) => .bool r) (fs := fun r x_ => []) Try.func9 rfl Try.ntmps9 rfl ((((SH.start hA).start_rd rfl hp0).start_rd rfl hp1).start_rd rfl hp2) rfl ?_ hr
  unfold F_laws_FnExactTopOf
  refine J_seq ?_
  refine J_region ?_
  refine JL_q (wants_none rfl) rfl (ex_assign rfl) ?_
  refine JL_nil ?_
  refine N_then ?_
  refine J_seq ?_
  refine J_seq ?_
  refine J_region ?_
  refine JL_q (wants_none rfl) rfl (ex_move rfl) ?_
  refine JL_q (wants_none rfl) rfl (ex_len_rd 1 Try.underlying34 rfl rfl) ?_
  refine JL_q (wants_none rfl) rfl (ex_gtr rfl rfl) ?_
  refine JL_nil ?_
  refine N_then ?_
  refine J_if rfl (fun h1 => ?_) (fun h1 => ?_)
  · refine J_seq ?_
    refine J_region ?_
    refine JL_q (wants_none rfl) rfl (ex_assign rfl) ?_
    refine JL_nil ?_
    refine N_then ?_
    refine J_ret ?_
    refine N_then_ret ?_
    exact N_ret1 rfl (rv_tmp rfl) (fun w hh => ⟨(), rfl, hh.sel [] rfl⟩)
  · refine J_skip ?_
    refine N_then ?_
    refine J_seq ?_
    refine J_region ?_
    refine JL_q (wants_none rfl) rfl (ex_assign rfl) ?_
    refine JL_nil ?_
    refine N_then ?_
    refine J_seq ?_
    refine J_region ?_
    refine JL_q (wants_none rfl) rfl (ex_move rfl) ?_
    refine JL_q (wants_none rfl) rfl (ex_move rfl) ?_
    refine JL_bnd fun r2 hr3 => ?_
    refine JL_call (wants_none rfl) rfl Try.call15 rfl (Ca_of0 fun w hh => c_laws_szTileS _ w (fun _ hk => hk.elim) _ _ (hh.rd0 2 rfl) _ _ hr3) (fun _ => ?_)
    refine JL_q (wants_none rfl) rfl (ex_assign rfl) ?_
    refine JL_nil ?_
    refine N_then ?_
    refine J_seq ?_
    refine J_seq ?_
    refine J_region ?_
    refine JL_q (wants_none rfl) rfl (ex_move rfl) ?_
    refine JL_q (wants_none rfl) rfl (ex_lss rfl rfl) ?_
    refine JL_nil ?_
    refine N_then ?_
    refine J_if rfl (fun h4 => ?_) (fun h4 => ?_)
    · refine J_seq ?_
      refine J_region ?_
      refine JL_q (wants_none rfl) rfl (ex_assign rfl) ?_
      refine JL_nil ?_
      refine N_then ?_
      refine J_ret ?_
      refine N_then_ret ?_
      exact N_ret1 rfl (rv_tmp rfl) (fun w hh => ⟨(), rfl, hh.sel [] rfl⟩)
    · refine J_skip ?_
      refine N_then ?_
      refine J_seq ?_
      refine J_region ?_
      refine JL_q (wants_none rfl) rfl (ex_move rfl) ?_
      refine JL_q (wants_none rfl) rfl (ex_move rfl) ?_
      refine JL_bnd fun r5 hr6 => ?_
      refine JL_call (wants_none rfl) rfl Try.call20 rfl (Ca_of0 fun w hh => c_laws_szInt64SS _ w (fun _ hk => hk.elim) _ _ (hh.rd0 0 rfl) _ _ hr6) (fun _ => ?_)
      refine JL_q (wants_none rfl) rfl (ex_assign rfl) ?_
      refine JL_nil ?_
      refine N_then ?_
      refine J_seq ?_
      refine J_seq ?_
      refine J_region ?_
      refine JL_q (wants_none rfl) rfl (ex_move rfl) ?_
      refine JL_q (wants_none rfl) rfl (ex_lss rfl rfl) ?_
      refine JL_nil ?_
      refine N_then ?_
      refine J_if rfl (fun h7 => ?_) (fun h7 => ?_)
      · refine J_seq ?_
        refine J_region ?_
        refine JL_q (wants_none rfl) rfl (ex_assign rfl) ?_
        refine JL_nil ?_
        refine N_then ?_
        refine J_ret ?_
        refine N_then_ret ?_
        exact N_ret1 rfl (rv_tmp rfl) (fun w hh => ⟨(), rfl, hh.sel [] rfl⟩)
      · refine J_skip ?_
        refine N_then ?_
        refine J_seq ?_
        refine J_region ?_
        refine JL_q (wants_none rfl) rfl (ex_move rfl) ?_
        refine JL_bnd fun r8 hr9 => ?_
        refine JL_call (wants_none rfl) rfl Try.call17 rfl (Ca_self (fun _ => rfl) fun w hh => c_laws_toTileS _ w (fun _ hk => hk.elim) _ _ (hh.rd0 2 rfl) _ hr9) (fun x10 => ?_)
        refine JL_q (wants_none rfl) rfl (ex_move rfl) ?_
        refine JL_bnd fun r11 hr12 => ?_
        refine JL_call (wants_none rfl) rfl Try.call26 rfl (Ca_self (fun _ => rfl) fun w hh => c_laws_toInt64S _ w (fun _ hk => hk.elim) _ _ (hh.rd0 2 rfl) _ hr12) (fun x13 => ?_)
        refine JL_q (wants_none rfl) rfl (ex_move rfl) ?_
        refine JL_bnd fun r14 hr15 => ?_
        refine JL_call (wants_none rfl) rfl Try.call22 rfl (Ca_self (fun _ => rfl) fun w hh => c_laws_toInt64SS _ w (fun _ hk => hk.elim) _ _ (hh.rd0 2 rfl) _ hr15) (fun x16 => ?_)
        obtain ⟨x16_0, x16_1⟩ := x16
        refine JL_bnd fun r17 hr18 => ?_
        refine JL_call (wants_none rfl) rfl Try.call43 rfl (Ca_self (fun _ => rfl) fun w hh => c_spec_TopOf _ w (fun _ hk => hk.elim) _ _ (hh.ow0 2 rfl) _ _ (hh.ow0 1 rfl) _ _ (hh.od0 0 rfl) _ hr18) (fun x19 => ?_)
        refine JL_q (wants_none rfl) rfl (ex_move rfl) ?_
        refine JL_q (wants_none rfl) rfl (ex_extract rfl rfl) ?_
        refine JL_q (wants_none rfl) rfl (ex_extract rfl rfl) ?_
        refine JL_q (wants_none rfl) rfl (ex_assign rfl) ?_
        refine JL_q (wants_none rfl) rfl (ex_assign rfl) ?_
        refine JL_nil ?_
        refine N_then ?_
        refine J_seq ?_
        refine J_region ?_
        refine JL_q (wants_none rfl) rfl (ex_move rfl) ?_
        refine JL_bnd fun r20 hr21 => ?_
        refine JL_call (wants_none rfl) rfl Try.call17 rfl (Ca_self (fun _ => rfl) fun w hh => c_laws_toTileS _ w (fun _ hk => hk.elim) _ _ (hh.rd0 6 rfl) _ hr21) (fun x22 => ?_)
        refine JL_q (wants_none rfl) rfl (ex_assign rfl) ?_
        refine JL_nil ?_
        refine N_then ?_
        refine J_seq ?_
        refine J_region ?_
        refine JL_q (wants_none rfl) rfl (ex_move rfl) ?_
        refine JL_bnd fun r23 hr24 => ?_
        refine JL_call (wants_none rfl) rfl Try.call26 rfl (Ca_self (fun _ => rfl) fun w hh => c_laws_toInt64S _ w (fun _ hk => hk.elim) _ _ (hh.rd0 6 rfl) _ hr24) (fun x25 => ?_)
        refine JL_q (wants_none rfl) rfl (ex_assign rfl) ?_
        refine JL_nil ?_
        refine N_then ?_
        refine J_seq ?_
        refine J_region ?_
        refine JL_q (wants_none rfl) rfl (ex_move rfl) ?_
        refine JL_bnd fun r26 hr27 => ?_
        refine JL_call (wants_none rfl) rfl Try.call22 rfl (Ca_self (fun _ => rfl) fun w hh => c_laws_toInt64SS _ w (fun _ hk => hk.elim) _ _ (hh.rd0 6 rfl) _ hr27) (fun x28 => ?_)
        obtain ⟨x28_0, x28_1⟩ := x28
        refine JL_q (wants_none rfl) rfl (ex_assign rfl) ?_
        refine JL_nil ?_
        refine N_then ?_
        refine J_seq ?_
        refine J_region ?_
        refine JL_q (wants_none rfl) rfl (ex_move rfl) ?_
        refine JL_q (wants_none rfl) rfl (ex_move rfl) ?_
        refine JL_q (wants_none rfl) rfl (ex_move rfl) ?_
        refine JL_bnd fun r29 hr30 => ?_
        refine JL_call (wants_none rfl) rfl Try.call44 rfl (Ca_self (fun _ => rfl) fun w hh => c_impl_TopOf _ w (fun _ hk => hk.elim) _ _ (hh.ow0 2 rfl) _ _ (hh.ow0 1 rfl) _ _ (hh.od0 0 rfl) _ hr30) (fun x31 => ?_)
        obtain ⟨x31_0, x31_1⟩ := x31
        refine JL_ctx (fun w hh => hh.tkn_rd 0 rfl) ?_
        refine JL_q (wants_none rfl) rfl (ex_move rfl) ?_
        refine JL_q (wants_none rfl) rfl (ex_extract rfl rfl) ?_
        refine JL_q (wants_none rfl) rfl (ex_extract rfl rfl) ?_
        refine JL_q (wants_none rfl) rfl (ex_assign rfl) ?_
        refine JL_q (wants_none rfl) rfl (ex_assign rfl) ?_
        refine JL_nil ?_
        refine N_then ?_
        refine J_seq ?_
        refine J_cut' (S' := Unit) (G' := Unit) (fun _ _ => [(0, v0_), (1, v1_), (2, v2_), (8, x19), (9, .int .i64 r17.2), (10, x22), (11, x25), (12, x28_0), (13, x31_0), (14, .int .i64 r29.2)]) (fun _ _ => [.rd v0_ p0, .rd v1_ p1, .rd v2_ p2, .ow 2 x19 r17.1, .ow 89 x22 r20, .ow 2 x25 r23, .od 34 x28_0 r26 x28_1, .rd x31_0 r29.1, .tkn x31_0 r29.1 x31_1]) ?_ (fun s32 g33 => ?_)
        · refine J_seq ?_
          refine J_region ?_
          refine JL_q (wants_none rfl) rfl (ex_move rfl) ?_
          refine JL_q (wants_none rfl) rfl (ex_move rfl) ?_
          refine JL_bnd fun r34 hr35 => ?_
          refine JL_call (wants_none rfl) rfl Try.call28 rfl (Ca_of0 fun w hh => c_laws_eqInt64S _ w (fun _ hk => hk.elim) _ _ (hh.rd0 0 rfl) _ _ (hh.ow0 5 rfl) _ hr35) (fun _ => ?_)
          refine JL_q (wants_none rfl) rfl (ex_not rfl) ?_
          refine JL_q (wants_none rfl) rfl (ex_move rfl) ?_
          refine JL_cond (fun h36 => ?_) (fun h36 => ?_)
          · refine JL_passed rfl rfl rfl h36 ?_
            refine JL_passed rfl rfl rfl h36 ?_
            refine JL_passed rfl rfl rfl h36 ?_
            refine JL_q (wants_none rfl) rfl (ex_pick_true rfl h36 rfl) ?_
            refine JL_nil ?_
            refine N_then ?_
            refine J_if_true rfl rfl ?_
            refine J_seq ?_
            refine J_region ?_
            refine JL_q (wants_none rfl) rfl (ex_assign rfl) ?_
            refine JL_nil ?_
            refine N_then ?_
            refine J_ret ?_
            refine N_mid_ret ?_
            refine N_then_ret ?_
            exact N_ret1 rfl (rv_tmp rfl) (fun w hh => ⟨(), rfl, hh.sel [] rfl⟩)
          · refine JL_q (wants_some rfl rfl rfl h36) rfl (ex_move rfl) ?_
            refine JL_q (wants_some rfl rfl rfl h36) rfl (ex_move rfl) ?_
            refine JL_q (wants_some rfl rfl rfl h36) rfl (ex_neq rfl rfl) ?_
            refine JL_q (wants_none rfl) rfl (ex_pick_false rfl h36 rfl) ?_
            refine JL_nil ?_
            refine N_then ?_
            refine J_if rfl (fun h37 => ?_) (fun h37 => ?_)
            · refine J_seq ?_
              refine J_region ?_
              refine JL_q (wants_none rfl) rfl (ex_assign rfl) ?_
              refine JL_nil ?_
              refine N_then ?_
              refine J_ret ?_
              refine N_mid_ret ?_
              refine N_then_ret ?_
              exact N_ret1 rfl (rv_tmp rfl) (fun w hh => ⟨(), rfl, hh.sel [] rfl⟩)
            · refine J_skip ?_
              exact N_meet' () ⟨rfl, rfl, rfl, rfl, rfl, rfl, rfl, rfl, rfl, rfl, trivial⟩ [11, 10, 9, 5, 4, 3, 2, 0, 1] rfl rfl
        · refine N_then ?_
          refine J_seq ?_
          refine J_seq ?_
          refine J_region ?_
          refine JL_q (wants_none rfl) rfl (ex_move rfl) ?_
          refine JL_q (wants_none rfl) rfl (ex_move rfl) ?_
          refine JL_bnd fun r38 hr39 => ?_
          refine JL_call (wants_none rfl) rfl Try.call17 rfl (Ca_self (fun _ => rfl) fun w hh => c_laws_toTileS _ w (fun _ hk => hk.elim) _ _ (hh.rd0 0 rfl) _ hr39) (fun x40 => ?_)
          refine JL_bnd fun r41 hr42 => ?_
          refine JL_call (wants_none rfl) rfl Try.call19 rfl (Ca_of0 fun w hh => c_laws_eqTileS _ w (fun _ hk => hk.elim) _ _ (hh.ow0 5 rfl) _ _ (hh.ow0 0 rfl) _ hr42) (fun _ => ?_)
          refine JL_q (wants_none rfl) rfl (ex_not rfl) ?_
          refine JL_nil ?_
          refine N_then ?_
          refine J_if rfl (fun h43 => ?_) (fun h43 => ?_)
          · refine J_seq ?_
            refine J_region ?_
            refine JL_q (wants_none rfl) rfl (ex_assign rfl) ?_
            refine JL_nil ?_
            refine N_then ?_
            refine J_ret ?_
            refine N_then_ret ?_
            exact N_ret1 rfl (rv_tmp rfl) (fun w hh => ⟨(), rfl, hh.sel [] rfl⟩)
          · refine J_skip ?_
            refine N_then ?_
            refine J_seq ?_
            refine J_seq ?_
            refine J_region ?_
            refine JL_q (wants_none rfl) rfl (ex_move rfl) ?_
            refine JL_q (wants_none rfl) rfl (ex_move rfl) ?_
            refine JL_bnd fun r44 hr45 => ?_
            refine JL_call (wants_none rfl) rfl Try.call26 rfl (Ca_self (fun _ => rfl) fun w hh => c_laws_toInt64S _ w (fun _ hk => hk.elim) _ _ (hh.rd0 2 rfl) _ hr45) (fun x46 => ?_)
            refine JL_bnd fun r47 hr48 => ?_
            refine JL_call (wants_none rfl) rfl Try.call28 rfl (Ca_of0 fun w hh => c_laws_eqInt64S _ w (fun _ hk => hk.elim) _ _ (hh.ow0 7 rfl) _ _ (hh.ow0 0 rfl) _ hr48) (fun _ => ?_)
            refine JL_q (wants_none rfl) rfl (ex_not rfl) ?_
            refine JL_nil ?_
            refine N_then ?_
            refine J_if rfl (fun h49 => ?_) (fun h49 => ?_)
            · refine J_seq ?_
              refine J_region ?_
              refine JL_q (wants_none rfl) rfl (ex_assign rfl) ?_
              refine JL_nil ?_
              refine N_then ?_
              refine J_ret ?_
              refine N_then_ret ?_
              exact N_ret1 rfl (rv_tmp rfl) (fun w hh => ⟨(), rfl, hh.sel [] rfl⟩)
            · refine J_skip ?_
              refine N_then ?_
              refine J_seq ?_
              refine J_seq ?_
              refine J_region ?_
              refine JL_q (wants_none rfl) rfl (ex_move rfl) ?_
              refine JL_q (wants_none rfl) rfl (ex_move rfl) ?_
              refine JL_bnd fun r50 hr51 => ?_
              refine JL_call (wants_none rfl) rfl Try.call22 rfl (Ca_self (fun _ => rfl) fun w hh => c_laws_toInt64SS _ w (fun _ hk => hk.elim) _ _ (hh.rd0 4 rfl) _ hr51) (fun x52 => ?_)
              obtain ⟨x52_0, x52_1⟩ := x52
              refine JL_bnd fun r53 hr54 => ?_
              refine JL_call (wants_none rfl) rfl Try.call24 rfl (Ca_of0 fun w hh => c_laws_eqInt64SS _ w (fun _ hk => hk.elim) _ _ (hh.od0 9 rfl) _ _ (hh.od0 0 rfl) _ hr54) (fun _ => ?_)
              refine JL_q (wants_none rfl) rfl (ex_not rfl) ?_
              refine JL_nil ?_
              refine N_then ?_
              refine J_if rfl (fun h55 => ?_) (fun h55 => ?_)
              · refine J_seq ?_
                refine J_region ?_
                refine JL_q (wants_none rfl) rfl (ex_assign rfl) ?_
                refine JL_nil ?_
                refine N_then ?_
                refine J_ret ?_
                refine N_then_ret ?_
                exact N_ret1 rfl (rv_tmp rfl) (fun w hh => ⟨(), rfl, hh.sel [] rfl⟩)
              · refine J_skip ?_
                refine N_then ?_
                refine J_seq ?_
                refine J_region ?_
                refine JL_q (wants_none rfl) rfl (ex_assign rfl) ?_
                refine JL_nil ?_
                refine N_then ?_
                refine J_seq ?_
                refine J_region ?_
                refine JL_q (wants_none rfl) rfl (ex_move rfl) ?_
                refine JL_q (wants_none rfl) rfl (ex_move rfl) ?_
                refine JL_bnd fun r56 hr57 => ?_
                refine JL_ctx (fun w hh => hh.tokf 7 rfl rfl) ?_
                refine JL_mark 0 [1, 2, 3, 7, 9, 10, 12] mk_laws_markTileS (wants_none rfl) rfl Try.call45 rfl rfl rfl rfl ((((SH.start hA).start_rd rfl hp0).start_rd rfl hp1).start_rd rfl hp2) rfl hr57 ?_
                refine JL_ctx (fun w hh => hh.tkn_rd 11 rfl) ?_
                refine JL_q (wants_none rfl) rfl (ex_assign rfl) ?_
                refine JL_nil ?_
                refine N_then ?_
                refine J_seq ?_
                refine J_region ?_
                refine JL_q (wants_none rfl) rfl (ex_move rfl) ?_
                refine JL_q (wants_none rfl) rfl (ex_move rfl) ?_
                refine JL_bnd fun r58 hr59 => ?_
                refine JL_ctx (fun w hh => hh.tokf 10 rfl rfl) ?_
                refine JL_mark 0 [3, 7, 8, 9, 10, 12, 13] mk_laws_markInt64S (wants_none rfl) rfl Try.call37 rfl rfl rfl rfl ((((SH.start hA).start_rd rfl hp0).start_rd rfl hp1).start_rd rfl hp2) rfl hr59 ?_
                refine JL_ctx (fun w hh => hh.tkn_rd 11 rfl) ?_
                refine JL_ctx (fun w hh => hh.tkn_rd 6 rfl) ?_
                refine JL_q (wants_none rfl) rfl (ex_assign rfl) ?_
                refine JL_nil ?_
                refine N_then ?_
                refine J_seq ?_
                refine J_region ?_
                refine JL_q (wants_none rfl) rfl (ex_move rfl) ?_
                refine JL_q (wants_none rfl) rfl (ex_move rfl) ?_
                refine JL_bnd fun r60 hr61 => ?_
                refine JL_ctx (fun w hh => hh.tok 12 rfl) ?_
                refine JL_mark 0 [4, 8, 9, 10, 11, 12, 14] mk_laws_markInt64SS (wants_none rfl) rfl Try.call41 rfl rfl rfl rfl ((((SH.start hA).start_rd rfl hp0).start_rd rfl hp1).start_rd rfl hp2) rfl hr61 ?_
                refine JL_ctx (fun w hh => hh.tkn_rd 6 rfl) ?_
                refine JL_ctx (fun w hh => hh.tkn_rd 12 rfl) ?_
                refine JL_ctx (fun w hh => hh.tkn_rd 7 rfl) ?_
                refine JL_q (wants_none rfl) rfl (ex_assign rfl) ?_
                refine JL_nil ?_
                refine N_then ?_
                refine J_seq ?_
                refine J_cut' (S' := Unit) (G' := Unit) (fun _ _ => [(0, v0_), (1, v1_), (2, v2_), (8, x19), (9, .int .i64 r17.2), (13, x31_0)]) (fun _ _ => [.rd v0_ p0, .rd v1_ p1, .rd v2_ p2, .ow 2 x19 r17.1, .rd x31_0 r29.1, .tkn x31_0 r29.1 x31_1]) ?_ (fun s62 g63 => ?_)
                · refine J_seq ?_
                  refine J_region ?_
                  refine JL_q (wants_none rfl) rfl (ex_move rfl) ?_
                  refine JL_q (wants_none rfl) rfl (ex_lss rfl rfl) ?_
                  refine JL_q (wants_none rfl) rfl (ex_move rfl) ?_
                  refine JL_cond (fun h64 => ?_) (fun h64 => ?_)
                  · refine JL_passed rfl rfl rfl h64 ?_
                    refine JL_passed rfl rfl rfl h64 ?_
                    refine JL_passed rfl rfl rfl h64 ?_
                    refine JL_passed rfl rfl rfl h64 ?_
                    refine JL_q (wants_none rfl) rfl (ex_pick_true rfl h64 rfl) ?_
                    refine JL_q (wants_none rfl) rfl (ex_move rfl) ?_
                    refine JL_passed rfl rfl rfl rfl ?_
                    refine JL_passed rfl rfl rfl rfl ?_
                    refine JL_passed rfl rfl rfl rfl ?_
                    refine JL_q (wants_none rfl) rfl (ex_pick_true rfl rfl rfl) ?_
                    refine JL_nil ?_
                    refine N_then ?_
                    refine J_if_true rfl rfl ?_
                    refine J_seq ?_
                    refine J_region ?_
                    refine JL_q (wants_none rfl) rfl (ex_assign rfl) ?_
                    refine JL_nil ?_
                    refine N_then ?_
                    refine J_ret ?_
                    refine N_mid_ret ?_
                    refine N_then_ret ?_
                    exact N_ret1 rfl (rv_tmp rfl) (fun w hh => ⟨(), rfl, hh.sel [] rfl⟩)
                  · refine JL_q (wants_some rfl rfl rfl h64) rfl (ex_move rfl) ?_
                    refine JL_q (wants_some rfl rfl rfl h64) rfl (ex_move rfl) ?_
                    refine JL_bnd fun r65 hr66 => ?_
                    refine JL_call (wants_some rfl rfl rfl h64) rfl Try.call28 rfl (Ca_of0 fun w hh => c_laws_eqInt64S _ w (fun _ hk => hk.elim) _ _ (hh.rd0 1 rfl) _ _ (hh.ow0 13 rfl) _ hr66) (fun _ => ?_)
                    refine JL_q (wants_some rfl rfl rfl h64) rfl (ex_not rfl) ?_
                    refine JL_q (wants_none rfl) rfl (ex_pick_false rfl h64 rfl) ?_
                    refine JL_q (wants_none rfl) rfl (ex_move rfl) ?_
                    refine JL_cond (fun h67 => ?_) (fun h67 => ?_)
                    · refine JL_passed rfl rfl rfl h67 ?_
                      refine JL_passed rfl rfl rfl h67 ?_
                      refine JL_passed rfl rfl rfl h67 ?_
                      refine JL_q (wants_none rfl) rfl (ex_pick_true rfl h67 rfl) ?_
                      refine JL_nil ?_
                      refine N_then ?_
                      refine J_if_true rfl rfl ?_
                      refine J_seq ?_
                      refine J_region ?_
                      refine JL_q (wants_none rfl) rfl (ex_assign rfl) ?_
                      refine JL_nil ?_
                      refine N_then ?_
                      refine J_ret ?_
                      refine N_mid_ret ?_
                      refine N_then_ret ?_
                      exact N_ret1 rfl (rv_tmp rfl) (fun w hh => ⟨(), rfl, hh.sel [] rfl⟩)
                    · refine JL_q (wants_some rfl rfl rfl h67) rfl (ex_move rfl) ?_
                      refine JL_q (wants_some rfl rfl rfl h67) rfl (ex_move rfl) ?_
                      refine JL_q (wants_some rfl rfl rfl h67) rfl (ex_neq rfl rfl) ?_
                      refine JL_q (wants_none rfl) rfl (ex_pick_false rfl h67 rfl) ?_
                      refine JL_nil ?_
                      refine N_then ?_
                      refine J_if rfl (fun h68 => ?_) (fun h68 => ?_)
                      · refine J_seq ?_
                        refine J_region ?_
                        refine JL_q (wants_none rfl) rfl (ex_assign rfl) ?_
                        refine JL_nil ?_
                        refine N_then ?_
                        refine J_ret ?_
                        refine N_mid_ret ?_
                        refine N_then_ret ?_
                        exact N_ret1 rfl (rv_tmp rfl) (fun w hh => ⟨(), rfl, hh.sel [] rfl⟩)
                      · refine J_skip ?_
                        exact N_meet' () ⟨rfl, rfl, rfl, rfl, rfl, rfl, trivial⟩ [7, 6, 5, 13, 1, 14] rfl rfl
                · refine N_then ?_
                  refine J_seq ?_
                  refine J_region ?_
                  refine JL_q (wants_none rfl) rfl (ex_assign rfl) ?_
                  refine JL_nil ?_
                  refine N_then ?_
                  refine J_seq ?_
                  refine J_region ?_
                  refine JL_q (wants_none rfl) rfl (ex_move rfl) ?_
                  refine JL_q (wants_none rfl) rfl (ex_move rfl) ?_
                  refine JL_bnd fun r69 hr70 => ?_
                  refine JL_mark 5 [3] mk_laws_markInt64S (wants_none rfl) rfl Try.call37 rfl rfl rfl rfl ((((SH.start hA).start_rd rfl hp0).start_rd rfl hp1).start_rd rfl hp2) rfl hr70 ?_
                  refine JL_q (wants_none rfl) rfl (ex_assign rfl) ?_
                  refine JL_nil ?_
                  refine N_then ?_
                  refine J_seq ?_
                  refine J_region ?_
                  refine JL_q (wants_none rfl) rfl (ex_assign rfl) ?_
                  refine JL_nil ?_
                  refine N_then ?_
                  refine J_seq ?_
                  refine J_region ?_
                  refine JL_q (wants_none rfl) rfl (ex_move rfl) ?_
                  refine JL_q (wants_none rfl) rfl (ex_move rfl) ?_
                  refine JL_bnd fun r71 hr72 => ?_
                  refine JL_call (wants_none rfl) rfl Try.call38 rfl (Ca_of0 fun w hh => c_laws_heldInt64S _ w (fun _ hk => hk.elim) _ _ (hh.rd0 0 rfl) _ _ hr72) (fun _ => ?_)
                  refine JL_q (wants_none rfl) rfl (ex_assign rfl) ?_
                  refine JL_nil ?_
                  refine N_then ?_
                  refine J_seq ?_
                  refine J_seq ?_
                  refine J_region ?_
                  refine JL_q (wants_none rfl) rfl (ex_move rfl) ?_
                  refine JL_q (wants_none rfl) rfl (ex_lss rfl rfl) ?_
                  refine JL_nil ?_
                  refine N_then ?_
                  refine J_if rfl (fun h73 => ?_) (fun h73 => ?_)
                  · refine J_seq ?_
                    refine J_region ?_
                    refine JL_q (wants_none rfl) rfl (ex_assign rfl) ?_
                    refine JL_nil ?_
                    refine N_then ?_
                    refine J_ret ?_
                    refine N_then_ret ?_
                    exact N_ret1 rfl (rv_tmp rfl) (fun w hh => ⟨(), rfl, hh.sel [] rfl⟩)
                  · refine J_skip ?_
                    refine N_then ?_
                    refine J_seq ?_
                    refine J_seq ?_
                    refine J_region ?_
                    refine JL_q (wants_none rfl) rfl (ex_move rfl) ?_
                    refine JL_q (wants_none rfl) rfl (ex_move rfl) ?_
                    refine JL_q (wants_none rfl) rfl (ex_neq rfl rfl) ?_
                    refine JL_nil ?_
                    refine N_then ?_
                    refine J_if rfl (fun h74 => ?_) (fun h74 => ?_)
                    · refine J_seq ?_
                      refine J_region ?_
                      refine JL_q (wants_none rfl) rfl (ex_assign rfl) ?_
                      refine JL_nil ?_
                      refine N_then ?_
                      refine J_ret ?_
                      refine N_then_ret ?_
                      exact N_ret1 rfl (rv_tmp rfl) (fun w hh => ⟨(), rfl, hh.sel [] rfl⟩)
                    · refine J_skip ?_
                      refine N_then ?_
                      refine J_seq ?_
                      refine J_region ?_
                      refine JL_q (wants_none rfl) rfl (ex_move rfl) ?_
                      refine JL_bnd fun r75 hr76 => ?_
                      refine JL_call (wants_none rfl) rfl Try.call17 rfl (Ca_self (fun _ => rfl) fun w hh => c_laws_toTileS _ w (fun _ hk => hk.elim) _ _ (hh.rd0 4 rfl) _ hr76) (fun x77 => ?_)
                      refine JL_q (wants_none rfl) rfl (ex_move rfl) ?_
                      refine JL_bnd fun r78 hr79 => ?_
                      refine JL_call (wants_none rfl) rfl Try.call26 rfl (Ca_self (fun _ => rfl) fun w hh => c_laws_toInt64S _ w (fun _ hk => hk.elim) _ _ (hh.rd0 4 rfl) _ hr79) (fun x80 => ?_)
                      refine JL_q (wants_none rfl) rfl (ex_move rfl) ?_
                      refine JL_bnd fun r81 hr82 => ?_
                      refine JL_call (wants_none rfl) rfl Try.call22 rfl (Ca_self (fun _ => rfl) fun w hh => c_laws_toInt64SS _ w (fun _ hk => hk.elim) _ _ (hh.rd0 4 rfl) _ hr82) (fun x83 => ?_)
                      obtain ⟨x83_0, x83_1⟩ := x83
                      refine JL_bnd fun r84 hr85 => ?_
                      refine JL_call (wants_none rfl) rfl Try.call44 rfl (Ca_self (fun _ => rfl) fun w hh => c_impl_TopOf _ w (fun _ hk => hk.elim) _ _ (hh.ow0 2 rfl) _ _ (hh.ow0 1 rfl) _ _ (hh.od0 0 rfl) _ hr85) (fun x86 => ?_)
                      obtain ⟨x86_0, x86_1⟩ := x86
                      refine JL_ctx (fun w hh => hh.tkn_rd 0 rfl) ?_
                      refine JL_q (wants_none rfl) rfl (ex_move rfl) ?_
                      refine JL_q (wants_none rfl) rfl (ex_extract rfl rfl) ?_
                      refine JL_q (wants_none rfl) rfl (ex_extract rfl rfl) ?_
                      refine JL_q (wants_none rfl) rfl (ex_assign rfl) ?_
                      refine JL_q (wants_none rfl) rfl (ex_assign rfl) ?_
                      refine JL_nil ?_
                      refine N_then ?_
                      refine J_seq ?_
                      refine J_seq ?_
                      refine J_region ?_
                      refine JL_q (wants_none rfl) rfl (ex_move rfl) ?_
                      refine JL_q (wants_none rfl) rfl (ex_move rfl) ?_
                      refine JL_bnd fun r87 hr88 => ?_
                      refine JL_call (wants_none rfl) rfl Try.call28 rfl (Ca_of0 fun w hh => c_laws_eqInt64S _ w (fun _ hk => hk.elim) _ _ (hh.rd0 0 rfl) _ _ (hh.ow0 10 rfl) _ hr88) (fun _ => ?_)
                      refine JL_q (wants_none rfl) rfl (ex_not rfl) ?_
                      refine JL_q (wants_none rfl) rfl (ex_move rfl) ?_
                      refine JL_cond (fun h89 => ?_) (fun h89 => ?_)
                      · refine JL_passed rfl rfl rfl h89 ?_
                        refine JL_passed rfl rfl rfl h89 ?_
                        refine JL_passed rfl rfl rfl h89 ?_
                        refine JL_q (wants_none rfl) rfl (ex_pick_true rfl h89 rfl) ?_
                        refine JL_nil ?_
                        refine N_then ?_
                        refine J_if_true rfl rfl ?_
                        refine J_seq ?_
                        refine J_region ?_
                        refine JL_q (wants_none rfl) rfl (ex_assign rfl) ?_
                        refine JL_nil ?_
                        refine N_then ?_
                        refine J_ret ?_
                        refine N_then_ret ?_
                        exact N_ret1 rfl (rv_tmp rfl) (fun w hh => ⟨(), rfl, hh.sel [] rfl⟩)
                      · refine JL_q (wants_some rfl rfl rfl h89) rfl (ex_move rfl) ?_
                        refine JL_q (wants_some rfl rfl rfl h89) rfl (ex_move rfl) ?_
                        refine JL_q (wants_some rfl rfl rfl h89) rfl (ex_neq rfl rfl) ?_
                        refine JL_q (wants_none rfl) rfl (ex_pick_false rfl h89 rfl) ?_
                        refine JL_nil ?_
                        refine N_then ?_
                        refine J_if rfl (fun h90 => ?_) (fun h90 => ?_)
                        · refine J_seq ?_
                          refine J_region ?_
                          refine JL_q (wants_none rfl) rfl (ex_assign rfl) ?_
                          refine JL_nil ?_
                          refine N_then ?_
                          refine J_ret ?_
                          refine N_then_ret ?_
                          exact N_ret1 rfl (rv_tmp rfl) (fun w hh => ⟨(), rfl, hh.sel [] rfl⟩)
                        · refine J_skip ?_
                          refine N_then ?_
                          refine J_seq ?_
                          refine J_region ?_
                          refine JL_q (wants_none rfl) rfl (ex_assign rfl) ?_
                          refine JL_nil ?_
                          refine N_then ?_
                          refine J_seq ?_
                          refine J_region ?_
                          refine JL_q (wants_none rfl) rfl (ex_move rfl) ?_
                          refine JL_q (wants_none rfl) rfl (ex_move rfl) ?_
                          refine JL_bnd fun r91 hr92 => ?_
                          refine JL_call (wants_none rfl) rfl Try.call38 rfl (Ca_of0 fun w hh => c_laws_heldInt64S _ w (fun _ hk => hk.elim) _ _ (hh.rd0 5 rfl) _ _ hr92) (fun _ => ?_)
                          refine JL_q (wants_none rfl) rfl (ex_assign rfl) ?_
                          refine JL_nil ?_
                          refine N_then ?_
                          refine J_seq ?_
                          refine J_seq ?_
                          refine J_region ?_
                          refine JL_q (wants_none rfl) rfl (ex_move rfl) ?_
                          refine JL_q (wants_none rfl) rfl (ex_lss rfl rfl) ?_
                          refine JL_nil ?_
                          refine N_then ?_
                          refine J_if rfl (fun h93 => ?_) (fun h93 => ?_)
                          · refine J_seq ?_
                            refine J_region ?_
                            refine JL_q (wants_none rfl) rfl (ex_assign rfl) ?_
                            refine JL_nil ?_
                            refine N_then ?_
                            refine J_ret ?_
                            refine N_then_ret ?_
                            exact N_ret1 rfl (rv_tmp rfl) (fun w hh => ⟨(), rfl, hh.sel [] rfl⟩)
                          · refine J_skip ?_
                            refine N_then ?_
                            refine J_seq ?_
                            refine J_seq ?_
                            refine J_region ?_
                            refine JL_q (wants_none rfl) rfl (ex_move rfl) ?_
                            refine JL_q (wants_none rfl) rfl (ex_move rfl) ?_
                            refine JL_q (wants_none rfl) rfl (ex_neq rfl rfl) ?_
                            refine JL_nil ?_
                            refine N_then ?_
                            refine J_if rfl (fun h94 => ?_) (fun h94 => ?_)
                            · refine J_seq ?_
                              refine J_region ?_
                              refine JL_q (wants_none rfl) rfl (ex_assign rfl) ?_
                              refine JL_nil ?_
                              refine N_then ?_
                              refine J_ret ?_
                              refine N_then_ret ?_
                              exact N_ret1 rfl (rv_tmp rfl) (fun w hh => ⟨(), rfl, hh.sel [] rfl⟩)
                            · refine J_skip ?_
                              refine N_then ?_
                              refine J_seq ?_
                              refine J_region ?_
                              refine JL_q (wants_none rfl) rfl (ex_assign rfl) ?_
                              refine JL_nil ?_
                              refine N_then ?_
                              refine J_ret ?_
                              exact N_ret1 rfl (rv_tmp rfl) (fun w hh => ⟨(), rfl, hh.sel [] rfl⟩)

end Go.Proofs.Ytgjihbmpbigilaa
