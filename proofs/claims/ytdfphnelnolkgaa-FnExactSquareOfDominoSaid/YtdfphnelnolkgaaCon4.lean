/-
  Each function of the program computes what its plain function says: printed by program. No condition.
-/
import Derived.Test.YtdfphnelnolkgaaFn
import Derived.Test.YtdfphnelnolkgaaInf
import Derived.Test.YtdfphnelnolkgaaCon1
import Derived.Test.YtdfphnelnolkgaaCon2
import Derived.Test.YtdfphnelnolkgaaCon3
namespace Go.Proofs.Ytdfphnelnolkgaa
open Go Go.Tc Go.Fn
set_option linter.unusedVariables false

set_option maxHeartbeats 4000000 in
theorem c_spec_SquareOfDomino (A : Nat → Prop) (w : World) (hA : ∀ k, A k → k < w.heap.size) (v0_ : Value) (p0 : GDomino) (hp0 : Rd A w v0_ p0) (r : (List (List Int)) × Int) (hr : F_spec_SquareOfDomino p0 = some r) :
    Con Try.prog 7 [v0_] A w (fun x_ : Value × List Nat => .tuple #[x_.1, .int .i64 r.2]) (fun x_ => [.od 22 x_.1 r.1 x_.2]) := by
  obtain ⟨v0_0, v0_1, rfl, hp0_0, hp0_1⟩ := GDomino.open hp0
  refine Con_of (v := fun (r : (List (List Int)) × Int) (x_ : Value × List Nat) => .tuple #[x_.1, .int .i64 r.2]) (fs := fun r x_ => [.od 22 x_.1 r.1 x_.2]) Try.func7 rfl Try.ntmps7 rfl (((SH.start hA).start_rd rfl hp0_0).start_rd rfl hp0_1) rfl ?_ hr
  unfold F_spec_SquareOfDomino
  refine J_seq ?_
  refine J_region ?_
  refine JL_st (wants_none rfl) rfl (st_box' rfl (fun w hh => (cv_aggs ⟨(hh.cv 1 rfl), (hh.cv 0 rfl), trivial⟩))) (fun b1 => ?_)
  refine JL_q (wants_none rfl) rfl (ex_assign rfl) ?_
  refine JL_q (wants_none rfl) rfl (ex_assign rfl) ?_
  refine JL_nil ?_
  refine N_then ?_
  refine J_seq ?_
  refine J_seq ?_
  refine J_region ?_
  refine JL_q (wants_none rfl) rfl (ex_load_bx_agg 0 ti_29 rfl rfl rfl rfl) ?_
  refine JL_st (wants_none rfl) rfl (st_buildSlice (vs := [.agg #[v0_0, v0_1]]) ([p0] : List GDomino) Try.underlying45 ti_29 zi_29 rfl rfl rfl (fun w hh => ⟨(GDomino.rdmk (hh.rd 2 rfl) (hh.rd 1 rfl)), trivial⟩)) (fun b2 => ?_)
  refine JL_bnd fun r3 hr4 => ?_
  refine JL_call (wants_none rfl) rfl Try.call30 rfl (Ca_of0 fun w hh => c_spec_l32Is _ w (fun _ hk => hk.elim) _ _ (hh.ow0 0 rfl) _ hr4) (fun _ => ?_)
  refine JL_q (wants_none rfl) rfl (ex_not rfl) ?_
  refine JL_nil ?_
  refine N_then ?_
  refine J_if rfl (fun h5 => ?_) (fun h5 => ?_)
  · refine J_seq ?_
    refine J_region ?_
    refine JL_q (wants_none rfl) rfl (ex_assign rfl) ?_
    refine JL_q (wants_none rfl) rfl (ex_assign rfl) ?_
    refine JL_nil ?_
    refine N_then ?_
    refine J_ret ?_
    refine N_then_ret ?_
    refine N_ctx (fun w hh => SH.od_nil (α := (List Int)) 22 hh) ?_
    exact N_ret2 rfl (rv_tmp rfl) (rv_tmp rfl) (fun w hh => ⟨((.slice none 0 0 : Value), ([] : List Nat)), rfl, hh.sel [0] rfl⟩)
  · refine J_skip ?_
    refine N_then ?_
    refine J_seq ?_
    refine J_region ?_
    refine JL_bnd fun r6 hr7 => ?_
    refine JL_call (wants_none rfl) rfl Try.call31 rfl (Ca_self (fun _ => rfl) fun w hh => c_spec_l33Square _ w (fun _ hk => hk.elim) _ _ (hh.bx_pa 1 rfl (GDomino.rdmk (hh.rd0 3 rfl) (hh.rd0 2 rfl)) rfl) _ hr7) (fun x8 => ?_)
    obtain ⟨x8_0, x8_1⟩ := x8
    refine JL_q (wants_none rfl) rfl (ex_assign rfl) ?_
    refine JL_nil ?_
    refine N_then ?_
    refine J_seq ?_
    refine J_seq ?_
    refine J_region ?_
    refine JL_q (wants_none rfl) rfl (ex_move rfl) ?_
    refine JL_bnd fun r9 hr10 => ?_
    refine JL_call (wants_none rfl) rfl Try.call32 rfl (Ca_of0 fun w hh => c_spec_l33Fits _ w (fun _ hk => hk.elim) _ _ (hh.od0 0 rfl) _ hr10) (fun _ => ?_)
    refine JL_q (wants_none rfl) rfl (ex_not rfl) ?_
    refine JL_nil ?_
    refine N_then ?_
    refine J_if rfl (fun h11 => ?_) (fun h11 => ?_)
    · refine J_seq ?_
      refine J_region ?_
      refine JL_q (wants_none rfl) rfl (ex_assign rfl) ?_
      refine JL_q (wants_none rfl) rfl (ex_assign rfl) ?_
      refine JL_nil ?_
      refine N_then ?_
      refine J_ret ?_
      refine N_then_ret ?_
      refine N_ctx (fun w hh => SH.od_nil (α := (List Int)) 22 hh) ?_
      exact N_ret2 rfl (rv_tmp rfl) (rv_tmp rfl) (fun w hh => ⟨((.slice none 0 0 : Value), ([] : List Nat)), rfl, hh.sel [0] rfl⟩)
    · refine J_skip ?_
      refine N_then ?_
      refine J_seq ?_
      refine J_region ?_
      refine JL_q (wants_none rfl) rfl (ex_move rfl) ?_
      refine JL_q (wants_none rfl) rfl (ex_assign rfl) ?_
      refine JL_q (wants_none rfl) rfl (ex_assign rfl) ?_
      refine JL_nil ?_
      refine N_then ?_
      refine J_ret ?_
      exact N_ret2 rfl (rv_tmp rfl) (rv_tmp rfl) (fun w hh => ⟨(x8_0, x8_1), rfl, hh.sel [0] rfl⟩)

set_option maxHeartbeats 4000000 in
theorem c_impl_SquareOfDomino (A : Nat → Prop) (w : World) (hA : ∀ k, A k → k < w.heap.size) (v0_ : Value) (p0 : GDomino) (hp0 : Rd A w v0_ p0) (r : (List (List Int)) × Int) (hr : F_impl_SquareOfDomino p0 = some r) :
    Con Try.prog 9 [v0_] A w (fun x_ : Value × List Nat => .tuple #[x_.1, .int .i64 r.2]) (fun x_ => [.tkn x_.1 r.1 x_.2]) := by
  obtain ⟨v0_0, v0_1, rfl, hp0_0, hp0_1⟩ := GDomino.open hp0
  refine Con_of (v := fun (r : (List (List Int)) × Int) (x_ : Value × List Nat) => .tuple #[x_.1, .int .i64 r.2]) (fs := fun r x_ => [.tkn x_.1 r.1 x_.2]) Try.func9 rfl Try.ntmps9 rfl (((SH.start hA).start_rd rfl hp0_0).start_rd rfl hp0_1) rfl ?_ hr
  unfold F_impl_SquareOfDomino
  refine J_seq ?_
  refine J_region ?_
  refine JL_st (wants_none rfl) rfl (st_box' rfl (fun w hh => (cv_aggs ⟨(hh.cv 1 rfl), (hh.cv 0 rfl), trivial⟩))) (fun b1 => ?_)
  refine JL_q (wants_none rfl) rfl (ex_assign rfl) ?_
  refine JL_q (wants_none rfl) rfl (ex_assign rfl) ?_
  refine JL_nil ?_
  refine N_then ?_
  refine J_seq ?_
  refine J_seq ?_
  refine J_region ?_
  refine JL_q (wants_none rfl) rfl (ex_load_bx_agg 0 ti_29 rfl rfl rfl rfl) ?_
  refine JL_bnd fun r2 hr3 => ?_
  refine JL_call (wants_none rfl) rfl Try.call33 rfl (Ca_of0 fun w hh => c_impl_validDomino _ w (fun _ hk => hk.elim) _ _ (GDomino.rdmk (hh.rd0 2 rfl) (hh.rd0 1 rfl)) _ hr3) (fun _ => ?_)
  refine JL_q (wants_none rfl) rfl (ex_not rfl) ?_
  refine JL_nil ?_
  refine N_then ?_
  refine J_if rfl (fun h4 => ?_) (fun h4 => ?_)
  · refine J_seq ?_
    refine J_region ?_
    refine JL_q (wants_none rfl) rfl (ex_assign rfl) ?_
    refine JL_q (wants_none rfl) rfl (ex_assign rfl) ?_
    refine JL_nil ?_
    refine N_then ?_
    refine J_ret ?_
    refine N_then_ret ?_
    refine N_ctx (fun w hh => SH.od_nil (α := (List Int)) 22 hh) ?_
    refine N_ctx (fun w hh => hh.tok 0 rfl) ?_
    exact N_ret2 rfl (rv_tmp rfl) (rv_tmp rfl) (fun w hh => ⟨((.slice none 0 0 : Value), ((.slice none 0 0 : Value).ownBlock.toList ++ [])), rfl, hh.sel [0] rfl⟩)
  · refine J_skip ?_
    refine N_then ?_
    refine J_seq ?_
    refine J_region ?_
    refine JL_q (wants_none rfl) rfl (ex_load_bx_agg 0 ti_29 rfl rfl rfl rfl) ?_
    refine JL_bnd fun r5 hr6 => ?_
    refine JL_call (wants_none rfl) rfl Try.call34 rfl (Ca_self (fun _ => rfl) fun w hh => c_impl_squareOf _ w (fun _ hk => hk.elim) _ _ (GDomino.rdmk (hh.rd0 2 rfl) (hh.rd0 1 rfl)) _ hr6) (fun x7 => ?_)
    obtain ⟨x7_0, x7_1⟩ := x7
    refine JL_ctx (fun w hh => hh.tkn_rd 0 rfl) ?_
    refine JL_q (wants_none rfl) rfl (ex_extract rfl rfl) ?_
    refine JL_q (wants_none rfl) rfl (ex_extract rfl rfl) ?_
    refine JL_q (wants_none rfl) rfl (ex_assign rfl) ?_
    refine JL_q (wants_none rfl) rfl (ex_assign rfl) ?_
    refine JL_nil ?_
    refine N_then ?_
    refine J_ret ?_
    exact N_ret2 rfl (rv_tmp rfl) (rv_tmp rfl) (fun w hh => ⟨(x7_0, x7_1), rfl, hh.sel [1] rfl⟩)

set_option maxHeartbeats 4000000 in
theorem c_laws_FnExactSquareOfDomino (A : Nat → Prop) (w : World) (hA : ∀ k, A k → k < w.heap.size) (v0_ : Value) (p0 : GDomino) (hp0 : Rd A w v0_ p0) (r : Bool) (hr : F_laws_FnExactSquareOfDomino p0 = some r) :
    Con Try.prog 3 [v0_] A w (fun x_ : Unit => .bool r) (fun x_ => []) := by
  obtain ⟨v0_0, v0_1, rfl, hp0_0, hp0_1⟩ := GDomino.open hp0
  refine Con_of (v := fun (r : Bool) (x_ : Unit) => .bool r) (fs := fun r x_ => []) Try.func3 rfl Try.ntmps3 rfl (((SH.start hA).start_rd rfl hp0_0).start_rd rfl hp0_1) rfl ?_ hr
  unfold F_laws_FnExactSquareOfDomino
  refine J_seq ?_
  refine J_region ?_
  refine JL_st (wants_none rfl) rfl (st_box' rfl (fun w hh => (cv_aggs ⟨(hh.cv 1 rfl), (hh.cv 0 rfl), trivial⟩))) (fun b1 => ?_)
  refine JL_q (wants_none rfl) rfl (ex_assign rfl) ?_
  refine JL_nil ?_
  refine N_then ?_
  refine J_seq ?_
  refine J_region ?_
  refine JL_q (wants_none rfl) rfl (ex_assign rfl) ?_
  refine JL_nil ?_
  refine N_then ?_
  refine J_seq ?_
  refine J_region ?_
  refine JL_q (wants_none rfl) rfl (ex_load_bx_agg 0 ti_24 rfl rfl rfl rfl) ?_
  refine JL_q (wants_none rfl) rfl (ex_move rfl) ?_
  refine JL_bnd fun r2 hr3 => ?_
  refine JL_call (wants_none rfl) rfl Try.call6 rfl (Ca_of0 fun w hh => c_laws_szDomino _ w (fun _ hk => hk.elim) _ _ (GDomino.rdmk (hh.rd0 2 rfl) (hh.rd0 1 rfl)) _ _ hr3) (fun _ => ?_)
  refine JL_q (wants_none rfl) rfl (ex_assign rfl) ?_
  refine JL_nil ?_
  refine N_then ?_
  refine J_seq ?_
  refine J_seq ?_
  refine J_region ?_
  refine JL_q (wants_none rfl) rfl (ex_move rfl) ?_
  refine JL_q (wants_none rfl) rfl (ex_lss rfl rfl) ?_
  refine JL_nil ?_
  refine N_then ?_
  refine J_if rfl (fun h4 => ?_) (fun h4 => ?_)
  · refine J_seq ?_
    refine J_region ?_
    refine JL_q (wants_none rfl) rfl (ex_assign rfl) ?_
    refine JL_nil ?_
    refine N_then ?_
    refine J_ret ?_
    refine N_then_ret ?_
    exact N_ret1 rfl (rv_tmp rfl) (fun w hh => ⟨(), rfl, hh.sel [] rfl⟩)
  · refine J_skip ?_
    refine N_then ?_
    refine J_seq ?_
    refine J_region ?_
    refine JL_q (wants_none rfl) rfl (ex_load_bx_agg 0 ti_24 rfl rfl rfl rfl) ?_
    refine JL_bnd fun r5 hr6 => ?_
    refine JL_call (wants_none rfl) rfl Try.call8 rfl (Ca_self (fun _ => rfl) fun w hh => c_laws_toDomino _ w (fun _ hk => hk.elim) _ _ (GDomino.rdmk (hh.rd0 2 rfl) (hh.rd0 1 rfl)) _ hr6) (fun x7 => ?_)
    obtain ⟨x7_0, x7_1⟩ := x7
    refine JL_bnd fun r8 hr9 => ?_
    refine JL_call (wants_none rfl) rfl Try.call7 rfl (Ca_self (fun _ => rfl) fun w hh => c_spec_SquareOfDomino _ w (fun _ hk => hk.elim) _ _ (GDomino.rdmk (hh.ow0 0 rfl) (hh.ow0 1 rfl)) _ hr9) (fun x10 => ?_)
    obtain ⟨x10_0, x10_1⟩ := x10
    refine JL_q (wants_none rfl) rfl (ex_move rfl) ?_
    refine JL_q (wants_none rfl) rfl (ex_extract rfl rfl) ?_
    refine JL_q (wants_none rfl) rfl (ex_extract rfl rfl) ?_
    refine JL_q (wants_none rfl) rfl (ex_assign rfl) ?_
    refine JL_q (wants_none rfl) rfl (ex_assign rfl) ?_
    refine JL_nil ?_
    refine N_then ?_
    refine J_seq ?_
    refine J_region ?_
    refine JL_q (wants_none rfl) rfl (ex_load_bx_agg 3 ti_24 rfl rfl rfl rfl) ?_
    refine JL_bnd fun r11 hr12 => ?_
    refine JL_call (wants_none rfl) rfl Try.call8 rfl (Ca_self (fun _ => rfl) fun w hh => c_laws_toDomino _ w (fun _ hk => hk.elim) _ _ (GDomino.rdmk (hh.rd0 5 rfl) (hh.rd0 4 rfl)) _ hr12) (fun x13 => ?_)
    obtain ⟨x13_0, x13_1⟩ := x13
    refine JL_st (wants_none rfl) rfl (st_alloc zi_29 rfl) (fun b14 => ?_)
    refine JL_sk (wants_none rfl) (sk_store_bx' 0 ti_29 rfl rfl (fun w hh => (cv_aggs ⟨(hh.cv_ow 1 rfl), (hh.cv_ow 2 rfl), trivial⟩)) rfl rfl rfl rfl) ?_
    refine JL_nil ?_
    refine N_then ?_
    refine J_seq ?_
    refine J_region ?_
    refine JL_q (wants_none rfl) rfl (ex_load_bx_agg 0 ti_29 rfl rfl rfl rfl) ?_
    refine JL_bnd fun r15 hr16 => ?_
    refine JL_call (wants_none rfl) rfl Try.call9 rfl (Ca_self (fun _ => rfl) fun w hh => c_impl_SquareOfDomino _ w (fun _ hk => hk.elim) _ _ (GDomino.rdmk (hh.ow0 1 rfl) (hh.ow0 2 rfl)) _ hr16) (fun x17 => ?_)
    obtain ⟨x17_0, x17_1⟩ := x17
    refine JL_ctx (fun w hh => hh.tkn_rd 0 rfl) ?_
    refine JL_q (wants_none rfl) rfl (ex_move rfl) ?_
    refine JL_q (wants_none rfl) rfl (ex_extract rfl rfl) ?_
    refine JL_q (wants_none rfl) rfl (ex_extract rfl rfl) ?_
    refine JL_q (wants_none rfl) rfl (ex_assign rfl) ?_
    refine JL_q (wants_none rfl) rfl (ex_assign rfl) ?_
    refine JL_nil ?_
    refine N_then ?_
    refine J_seq ?_
    refine J_cut' (S' := Unit) (G' := Unit) (fun _ _ => [(1, .pointer (some ⟨b1, 0, none⟩)), (4, x10_0), (5, .int .i64 r8.2), (6, .pointer (some ⟨b14, 0, none⟩)), (7, x17_0), (8, .int .i64 r15.2)]) (fun _ _ => [.rd v0_0 p0.Top, .rd v0_1 p0.Bottom, .bx b1 24 [v0_0, v0_1], .od 22 x10_0 r8.1 x10_1, .ow 2 x13_0 r11.Top, .ow 2 x13_1 r11.Bottom, .bx b14 29 [x13_0, x13_1], .rd x17_0 r15.1, .tkn x17_0 r15.1 x17_1]) ?_ (fun s18 g19 => ?_)
    · refine J_seq ?_
      refine J_region ?_
      refine JL_q (wants_none rfl) rfl (ex_move rfl) ?_
      refine JL_q (wants_none rfl) rfl (ex_move rfl) ?_
      refine JL_bnd fun r20 hr21 => ?_
      refine JL_call (wants_none rfl) rfl Try.call10 rfl (Ca_of0 fun w hh => c_laws_eqInt64SS _ w (fun _ hk => hk.elim) _ _ (hh.rd0 0 rfl) _ _ (hh.od0 5 rfl) _ hr21) (fun _ => ?_)
      refine JL_q (wants_none rfl) rfl (ex_not rfl) ?_
      refine JL_q (wants_none rfl) rfl (ex_move rfl) ?_
      refine JL_cond (fun h22 => ?_) (fun h22 => ?_)
      · refine JL_passed rfl rfl rfl h22 ?_
        refine JL_passed rfl rfl rfl h22 ?_
        refine JL_passed rfl rfl rfl h22 ?_
        refine JL_q (wants_none rfl) rfl (ex_pick_true rfl h22 rfl) ?_
        refine JL_nil ?_
        refine N_then ?_
        refine J_if_true rfl rfl ?_
        refine J_seq ?_
        refine J_region ?_
        refine JL_q (wants_none rfl) rfl (ex_assign rfl) ?_
        refine JL_nil ?_
        refine N_then ?_
        refine J_ret ?_
        refine N_mid_ret ?_
        refine N_then_ret ?_
        exact N_ret1 rfl (rv_tmp rfl) (fun w hh => ⟨(), rfl, hh.sel [] rfl⟩)
      · refine JL_q (wants_some rfl rfl rfl h22) rfl (ex_move rfl) ?_
        refine JL_q (wants_some rfl rfl rfl h22) rfl (ex_move rfl) ?_
        refine JL_q (wants_some rfl rfl rfl h22) rfl (ex_neq rfl rfl) ?_
        refine JL_q (wants_none rfl) rfl (ex_pick_false rfl h22 rfl) ?_
        refine JL_nil ?_
        refine N_then ?_
        refine J_if rfl (fun h23 => ?_) (fun h23 => ?_)
        · refine J_seq ?_
          refine J_region ?_
          refine JL_q (wants_none rfl) rfl (ex_assign rfl) ?_
          refine JL_nil ?_
          refine N_then ?_
          refine J_ret ?_
          refine N_mid_ret ?_
          refine N_then_ret ?_
          exact N_ret1 rfl (rv_tmp rfl) (fun w hh => ⟨(), rfl, hh.sel [] rfl⟩)
        · refine J_skip ?_
          exact N_meet' () ⟨rfl, rfl, rfl, rfl, rfl, rfl, trivial⟩ [10, 9, 8, 5, 3, 4, 2, 0, 1] rfl rfl
    · refine N_then ?_
      refine J_seq ?_
      refine J_seq ?_
      refine J_draw [] (by kernel_rfl) ?_
      refine JP_take (i := 0) [0, 1, 2, 3, 4, 5, 6, 7, 8] [] rfl (by kernel_rfl) (by kernel_rfl) (by kernel_rfl) rfl rfl (wants_none rfl) rfl (ex_load_bx_agg 6 ti_29 rfl rfl rfl rfl) ?_
      refine JP_take (i := 1) [0, 1, 2, 3, 4, 5, 6, 7, 8] [] rfl (by kernel_rfl) (by kernel_rfl) (by kernel_rfl) rfl rfl (wants_none rfl) rfl (ex_load_bx_agg 2 ti_24 rfl rfl rfl rfl) ?_
      refine JP_go [0, 1, 2, 3, 4, 5, 6, 7, 8] [] rfl rfl rfl (fun w25 h1_26 hp24 => ?_)
      refine JD_bnd fun r27 hr28 => ?_
      refine JD_one (i := 2) (by kernel_rfl) ?_
      refine JO_call rfl (wants_none rfl) rfl Try.call8 rfl (Ca_self (fun _ => rfl) fun w hh => c_laws_toDomino _ w (fun _ hk => hk.elim) _ _ (GDomino.rdmk (hh.rd0 0 rfl) (hh.rd0 1 rfl)) _ hr28) (fun x29 => ?_)
      obtain ⟨x29_0, x29_1⟩ := x29
      refine JD_bnd fun r30 hr31 => ?_
      refine JD_one (i := 3) (by kernel_rfl) ?_
      refine JO_call rfl (wants_none rfl) rfl Try.call11 rfl (Ca_of0 fun w hh => c_laws_eqDomino _ w (fun _ hk => hk.elim) _ _ (GDomino.rdmk (hh.ow0 6 rfl) (hh.ow0 7 rfl)) _ _ (GDomino.rdmk (hh.ow0 0 rfl) (hh.ow0 1 rfl)) _ hr31) (fun _ => ?_)
      refine JD_take (i := 4) hp24 rfl (by kernel_rfl) (by kernel_rfl) (by kernel_rfl) (wants_none rfl) rfl (ex_not rfl) ?_
      refine JD_done (by kernel_rfl) ?_
      refine N_then ?_
      refine J_if rfl (fun h32 => ?_) (fun h32 => ?_)
      · refine J_seq ?_
        refine J_region ?_
        refine JL_q (wants_none rfl) rfl (ex_assign rfl) ?_
        refine JL_nil ?_
        refine N_then ?_
        refine J_ret ?_
        refine N_then_ret ?_
        exact N_ret1 rfl (rv_tmp rfl) (fun w hh => ⟨(), rfl, hh.sel [] rfl⟩)
      · refine J_skip ?_
        refine N_then ?_
        refine J_seq ?_
        refine J_region ?_
        refine JL_q (wants_none rfl) rfl (ex_assign rfl) ?_
        refine JL_nil ?_
        refine N_then ?_
        refine J_seq ?_
        refine J_region ?_
        refine JL_q (wants_none rfl) rfl (ex_load_bx_agg 8 ti_29 rfl rfl rfl rfl) ?_
        refine JL_q (wants_none rfl) rfl (ex_move rfl) ?_
        refine JL_inline (wants_none rfl) rfl Try.call12 rfl Try.func12 rfl Try.ntmps12 rfl rfl (fun K_ hK33 => ?_)
        refine J_seq ?_
        refine J_region ?_
        refine JL_st (wants_none rfl) rfl (st_box' rfl (fun w hh => (cv_aggs ⟨(hh.cv_ow 6 rfl), (hh.cv_ow 7 rfl), trivial⟩))) (fun b34 => ?_)
        refine JL_q (wants_none rfl) rfl (ex_assign rfl) ?_
        refine JL_nil ?_
        refine N_then ?_
        refine J_seq ?_
        refine J_region ?_
        refine JL_q (wants_none rfl) rfl (ex_fieldAddr fi_29_0 rfl rfl) ?_
        refine JL_q (wants_none rfl) rfl (ex_load_bx 0 ti_22 rfl rfl rfl) ?_
        refine JL_q (wants_none rfl) rfl (ex_move rfl) ?_
        refine JL_bnd fun r35 hr36 => ?_
        refine JL_ctx (fun w hh => hh.tokf 7 rfl rfl) ?_
        refine JL_mark 0 [1, 2, 3, 6, 7, 9, 10, 12] mk_laws_markInt64S (wants_none rfl) rfl Try.call20 rfl rfl rfl rfl (((SH.start hA).start_rd rfl hp0_0).start_rd rfl hp0_1) rfl hr36 ?_
        refine JL_ctx (fun w hh => hh.tkn_rd 11 rfl) ?_
        refine JL_q (wants_none rfl) rfl (ex_assign rfl) ?_
        refine JL_nil ?_
        refine N_then ?_
        refine J_seq ?_
        refine J_region ?_
        refine JL_q (wants_none rfl) rfl (ex_fieldAddr fi_29_1 rfl rfl) ?_
        refine JL_q (wants_none rfl) rfl (ex_load_bx 5 ti_22 rfl rfl rfl) ?_
        refine JL_q (wants_none rfl) rfl (ex_move rfl) ?_
        refine JL_bnd fun r37 hr38 => ?_
        refine JL_ctx (fun w hh => hh.tokf 10 rfl rfl) ?_
        refine JL_mark 0 [3, 6, 7, 8, 9, 10, 12, 13] mk_laws_markInt64S (wants_none rfl) rfl Try.call20 rfl rfl rfl rfl (((SH.start hA).start_rd rfl hp0_0).start_rd rfl hp0_1) rfl hr38 ?_
        refine JL_ctx (fun w hh => hh.tkn_rd 11 rfl) ?_
        refine JL_ctx (fun w hh => hh.tkn_rd 5 rfl) ?_
        refine JL_q (wants_none rfl) rfl (ex_assign rfl) ?_
        refine JL_nil ?_
        refine N_then ?_
        refine J_seq ?_
        refine J_region ?_
        refine JL_q (wants_none rfl) rfl (ex_move rfl) ?_
        refine JL_q (wants_none rfl) rfl (ex_assign rfl) ?_
        refine JL_nil ?_
        refine N_then ?_
        refine J_ret ?_
        refine N_inl1 hK33 rfl (rv_tmp rfl) ?_
        refine JL_q (wants_none rfl) rfl (ex_assign rfl) ?_
        refine JL_nil ?_
        refine N_then ?_
        refine J_seq ?_
        refine J_cut' (S' := Unit) (G' := Unit) (fun _ _ => [(1, .pointer (some ⟨b1, 0, none⟩)), (4, x10_0), (5, .int .i64 r8.2), (7, x17_0)]) (fun _ _ => [.rd v0_0 p0.Top, .rd v0_1 p0.Bottom, .bx b1 24 [v0_0, v0_1], .od 22 x10_0 r8.1 x10_1, .rd x17_0 r15.1, .tkn x17_0 r15.1 x17_1]) ?_ (fun s39 g40 => ?_)
        · refine J_seq ?_
          refine J_region ?_
          refine JL_q (wants_none rfl) rfl (ex_move rfl) ?_
          refine JL_q (wants_none rfl) rfl (ex_lss rfl rfl) ?_
          refine JL_q (wants_none rfl) rfl (ex_move rfl) ?_
          refine JL_cond (fun h41 => ?_) (fun h41 => ?_)
          · refine JL_passed rfl rfl rfl h41 ?_
            refine JL_passed rfl rfl rfl h41 ?_
            refine JL_passed rfl rfl rfl h41 ?_
            refine JL_passed rfl rfl rfl h41 ?_
            refine JL_q (wants_none rfl) rfl (ex_pick_true rfl h41 rfl) ?_
            refine JL_q (wants_none rfl) rfl (ex_move rfl) ?_
            refine JL_passed rfl rfl rfl rfl ?_
            refine JL_passed rfl rfl rfl rfl ?_
            refine JL_passed rfl rfl rfl rfl ?_
            refine JL_q (wants_none rfl) rfl (ex_pick_true rfl rfl rfl) ?_
            refine JL_nil ?_
            refine N_then ?_
            refine J_if_true rfl rfl ?_
            refine J_seq ?_
            refine J_region ?_
            refine JL_q (wants_none rfl) rfl (ex_assign rfl) ?_
            refine JL_nil ?_
            refine N_then ?_
            refine J_ret ?_
            refine N_mid_ret ?_
            refine N_then_ret ?_
            exact N_ret1 rfl (rv_tmp rfl) (fun w hh => ⟨(), rfl, hh.sel [] rfl⟩)
          · refine JL_q (wants_some rfl rfl rfl h41) rfl (ex_move rfl) ?_
            refine JL_q (wants_some rfl rfl rfl h41) rfl (ex_move rfl) ?_
            refine JL_bnd fun r42 hr43 => ?_
            refine JL_call (wants_some rfl rfl rfl h41) rfl Try.call10 rfl (Ca_of0 fun w hh => c_laws_eqInt64SS _ w (fun _ hk => hk.elim) _ _ (hh.rd0 1 rfl) _ _ (hh.od0 11 rfl) _ hr43) (fun _ => ?_)
            refine JL_q (wants_some rfl rfl rfl h41) rfl (ex_not rfl) ?_
            refine JL_q (wants_none rfl) rfl (ex_pick_false rfl h41 rfl) ?_
            refine JL_q (wants_none rfl) rfl (ex_move rfl) ?_
            refine JL_cond (fun h44 => ?_) (fun h44 => ?_)
            · refine JL_passed rfl rfl rfl h44 ?_
              refine JL_passed rfl rfl rfl h44 ?_
              refine JL_passed rfl rfl rfl h44 ?_
              refine JL_q (wants_none rfl) rfl (ex_pick_true rfl h44 rfl) ?_
              refine JL_nil ?_
              refine N_then ?_
              refine J_if_true rfl rfl ?_
              refine J_seq ?_
              refine J_region ?_
              refine JL_q (wants_none rfl) rfl (ex_assign rfl) ?_
              refine JL_nil ?_
              refine N_then ?_
              refine J_ret ?_
              refine N_mid_ret ?_
              refine N_then_ret ?_
              exact N_ret1 rfl (rv_tmp rfl) (fun w hh => ⟨(), rfl, hh.sel [] rfl⟩)
            · refine JL_q (wants_some rfl rfl rfl h44) rfl (ex_move rfl) ?_
              refine JL_q (wants_some rfl rfl rfl h44) rfl (ex_move rfl) ?_
              refine JL_q (wants_some rfl rfl rfl h44) rfl (ex_neq rfl rfl) ?_
              refine JL_q (wants_none rfl) rfl (ex_pick_false rfl h44 rfl) ?_
              refine JL_nil ?_
              refine N_then ?_
              refine J_if rfl (fun h45 => ?_) (fun h45 => ?_)
              · refine J_seq ?_
                refine J_region ?_
                refine JL_q (wants_none rfl) rfl (ex_assign rfl) ?_
                refine JL_nil ?_
                refine N_then ?_
                refine J_ret ?_
                refine N_mid_ret ?_
                refine N_then_ret ?_
                exact N_ret1 rfl (rv_tmp rfl) (fun w hh => ⟨(), rfl, hh.sel [] rfl⟩)
              · refine J_skip ?_
                exact N_meet' () ⟨rfl, rfl, rfl, rfl, trivial⟩ [5, 4, 10, 11, 1, 13] rfl rfl
        · refine N_then ?_
          refine J_seq ?_
          refine J_region ?_
          refine JL_q (wants_none rfl) rfl (ex_assign rfl) ?_
          refine JL_nil ?_
          refine N_then ?_
          refine J_seq ?_
          refine J_region ?_
          refine JL_q (wants_none rfl) rfl (ex_move rfl) ?_
          refine JL_q (wants_none rfl) rfl (ex_move rfl) ?_
          refine JL_bnd fun r46 hr47 => ?_
          refine JL_mark 5 [2, 3] mk_laws_markInt64SS (wants_none rfl) rfl Try.call13 rfl rfl rfl rfl (((SH.start hA).start_rd rfl hp0_0).start_rd rfl hp0_1) rfl hr47 ?_
          refine JL_q (wants_none rfl) rfl (ex_assign rfl) ?_
          refine JL_nil ?_
          refine N_then ?_
          refine J_seq ?_
          refine J_region ?_
          refine JL_q (wants_none rfl) rfl (ex_assign rfl) ?_
          refine JL_nil ?_
          refine N_then ?_
          refine J_seq ?_
          refine J_region ?_
          refine JL_q (wants_none rfl) rfl (ex_move rfl) ?_
          refine JL_q (wants_none rfl) rfl (ex_move rfl) ?_
          refine JL_bnd fun r48 hr49 => ?_
          refine JL_call (wants_none rfl) rfl Try.call14 rfl (Ca_of0 fun w hh => c_laws_heldInt64SS _ w (fun _ hk => hk.elim) _ _ (hh.rd0 0 rfl) _ _ hr49) (fun _ => ?_)
          refine JL_q (wants_none rfl) rfl (ex_assign rfl) ?_
          refine JL_nil ?_
          refine N_then ?_
          refine J_seq ?_
          refine J_seq ?_
          refine J_region ?_
          refine JL_q (wants_none rfl) rfl (ex_move rfl) ?_
          refine JL_q (wants_none rfl) rfl (ex_lss rfl rfl) ?_
          refine JL_nil ?_
          refine N_then ?_
          refine J_if rfl (fun h50 => ?_) (fun h50 => ?_)
          · refine J_seq ?_
            refine J_region ?_
            refine JL_q (wants_none rfl) rfl (ex_assign rfl) ?_
            refine JL_nil ?_
            refine N_then ?_
            refine J_ret ?_
            refine N_then_ret ?_
            exact N_ret1 rfl (rv_tmp rfl) (fun w hh => ⟨(), rfl, hh.sel [] rfl⟩)
          · refine J_skip ?_
            refine N_then ?_
            refine J_seq ?_
            refine J_seq ?_
            refine J_region ?_
            refine JL_q (wants_none rfl) rfl (ex_move rfl) ?_
            refine JL_q (wants_none rfl) rfl (ex_move rfl) ?_
            refine JL_q (wants_none rfl) rfl (ex_neq rfl rfl) ?_
            refine JL_nil ?_
            refine N_then ?_
            refine J_if rfl (fun h51 => ?_) (fun h51 => ?_)
            · refine J_seq ?_
              refine J_region ?_
              refine JL_q (wants_none rfl) rfl (ex_assign rfl) ?_
              refine JL_nil ?_
              refine N_then ?_
              refine J_ret ?_
              refine N_then_ret ?_
              exact N_ret1 rfl (rv_tmp rfl) (fun w hh => ⟨(), rfl, hh.sel [] rfl⟩)
            · refine J_skip ?_
              refine N_then ?_
              refine J_seq ?_
              refine J_region ?_
              refine JL_q (wants_none rfl) rfl (ex_load_bx_agg 4 ti_24 rfl rfl rfl rfl) ?_
              refine JL_bnd fun r52 hr53 => ?_
              refine JL_call (wants_none rfl) rfl Try.call8 rfl (Ca_self (fun _ => rfl) fun w hh => c_laws_toDomino _ w (fun _ hk => hk.elim) _ _ (GDomino.rdmk (hh.rd0 3 rfl) (hh.rd0 2 rfl)) _ hr53) (fun x54 => ?_)
              obtain ⟨x54_0, x54_1⟩ := x54
              refine JL_bnd fun r55 hr56 => ?_
              refine JL_call (wants_none rfl) rfl Try.call9 rfl (Ca_self (fun _ => rfl) fun w hh => c_impl_SquareOfDomino _ w (fun _ hk => hk.elim) _ _ (GDomino.rdmk (hh.ow0 0 rfl) (hh.ow0 1 rfl)) _ hr56) (fun x57 => ?_)
              obtain ⟨x57_0, x57_1⟩ := x57
              refine JL_ctx (fun w hh => hh.tkn_rd 0 rfl) ?_
              refine JL_q (wants_none rfl) rfl (ex_move rfl) ?_
              refine JL_q (wants_none rfl) rfl (ex_extract rfl rfl) ?_
              refine JL_q (wants_none rfl) rfl (ex_extract rfl rfl) ?_
              refine JL_q (wants_none rfl) rfl (ex_assign rfl) ?_
              refine JL_q (wants_none rfl) rfl (ex_assign rfl) ?_
              refine JL_nil ?_
              refine N_then ?_
              refine J_seq ?_
              refine J_seq ?_
              refine J_region ?_
              refine JL_q (wants_none rfl) rfl (ex_move rfl) ?_
              refine JL_q (wants_none rfl) rfl (ex_move rfl) ?_
              refine JL_bnd fun r58 hr59 => ?_
              refine JL_call (wants_none rfl) rfl Try.call10 rfl (Ca_of0 fun w hh => c_laws_eqInt64SS _ w (fun _ hk => hk.elim) _ _ (hh.rd0 0 rfl) _ _ (hh.od0 9 rfl) _ hr59) (fun _ => ?_)
              refine JL_q (wants_none rfl) rfl (ex_not rfl) ?_
              refine JL_q (wants_none rfl) rfl (ex_move rfl) ?_
              refine JL_cond (fun h60 => ?_) (fun h60 => ?_)
              · refine JL_passed rfl rfl rfl h60 ?_
                refine JL_passed rfl rfl rfl h60 ?_
                refine JL_passed rfl rfl rfl h60 ?_
                refine JL_q (wants_none rfl) rfl (ex_pick_true rfl h60 rfl) ?_
                refine JL_nil ?_
                refine N_then ?_
                refine J_if_true rfl rfl ?_
                refine J_seq ?_
                refine J_region ?_
                refine JL_q (wants_none rfl) rfl (ex_assign rfl) ?_
                refine JL_nil ?_
                refine N_then ?_
                refine J_ret ?_
                refine N_then_ret ?_
                exact N_ret1 rfl (rv_tmp rfl) (fun w hh => ⟨(), rfl, hh.sel [] rfl⟩)
              · refine JL_q (wants_some rfl rfl rfl h60) rfl (ex_move rfl) ?_
                refine JL_q (wants_some rfl rfl rfl h60) rfl (ex_move rfl) ?_
                refine JL_q (wants_some rfl rfl rfl h60) rfl (ex_neq rfl rfl) ?_
                refine JL_q (wants_none rfl) rfl (ex_pick_false rfl h60 rfl) ?_
                refine JL_nil ?_
                refine N_then ?_
                refine J_if rfl (fun h61 => ?_) (fun h61 => ?_)
                · refine J_seq ?_
                  refine J_region ?_
                  refine JL_q (wants_none rfl) rfl (ex_assign rfl) ?_
                  refine JL_nil ?_
                  refine N_then ?_
                  refine J_ret ?_
                  refine N_then_ret ?_
                  exact N_ret1 rfl (rv_tmp rfl) (fun w hh => ⟨(), rfl, hh.sel [] rfl⟩)
                · refine J_skip ?_
                  refine N_then ?_
                  refine J_seq ?_
                  refine J_region ?_
                  refine JL_q (wants_none rfl) rfl (ex_assign rfl) ?_
                  refine JL_nil ?_
                  refine N_then ?_
                  refine J_seq ?_
                  refine J_region ?_
                  refine JL_q (wants_none rfl) rfl (ex_move rfl) ?_
                  refine JL_q (wants_none rfl) rfl (ex_move rfl) ?_
                  refine JL_bnd fun r62 hr63 => ?_
                  refine JL_call (wants_none rfl) rfl Try.call14 rfl (Ca_of0 fun w hh => c_laws_heldInt64SS _ w (fun _ hk => hk.elim) _ _ (hh.rd0 4 rfl) _ _ hr63) (fun _ => ?_)
                  refine JL_q (wants_none rfl) rfl (ex_assign rfl) ?_
                  refine JL_nil ?_
                  refine N_then ?_
                  refine J_seq ?_
                  refine J_seq ?_
                  refine J_region ?_
                  refine JL_q (wants_none rfl) rfl (ex_move rfl) ?_
                  refine JL_q (wants_none rfl) rfl (ex_lss rfl rfl) ?_
                  refine JL_nil ?_
                  refine N_then ?_
                  refine J_if rfl (fun h64 => ?_) (fun h64 => ?_)
                  · refine J_seq ?_
                    refine J_region ?_
                    refine JL_q (wants_none rfl) rfl (ex_assign rfl) ?_
                    refine JL_nil ?_
                    refine N_then ?_
                    refine J_ret ?_
                    refine N_then_ret ?_
                    exact N_ret1 rfl (rv_tmp rfl) (fun w hh => ⟨(), rfl, hh.sel [] rfl⟩)
                  · refine J_skip ?_
                    refine N_then ?_
                    refine J_seq ?_
                    refine J_seq ?_
                    refine J_region ?_
                    refine JL_q (wants_none rfl) rfl (ex_move rfl) ?_
                    refine JL_q (wants_none rfl) rfl (ex_move rfl) ?_
                    refine JL_q (wants_none rfl) rfl (ex_neq rfl rfl) ?_
                    refine JL_nil ?_
                    refine N_then ?_
                    refine J_if rfl (fun h65 => ?_) (fun h65 => ?_)
                    · refine J_seq ?_
                      refine J_region ?_
                      refine JL_q (wants_none rfl) rfl (ex_assign rfl) ?_
                      refine JL_nil ?_
                      refine N_then ?_
                      refine J_ret ?_
                      refine N_then_ret ?_
                      exact N_ret1 rfl (rv_tmp rfl) (fun w hh => ⟨(), rfl, hh.sel [] rfl⟩)
                    · refine J_skip ?_
                      refine N_then ?_
                      refine J_seq ?_
                      refine J_region ?_
                      refine JL_q (wants_none rfl) rfl (ex_assign rfl) ?_
                      refine JL_nil ?_
                      refine N_then ?_
                      refine J_ret ?_
                      exact N_ret1 rfl (rv_tmp rfl) (fun w hh => ⟨(), rfl, hh.sel [] rfl⟩)

end Go.Proofs.Ytdfphnelnolkgaa
