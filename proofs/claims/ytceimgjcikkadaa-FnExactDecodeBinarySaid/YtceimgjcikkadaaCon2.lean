/-
  Each function of the program computes what its plain function says: printed by program. No condition.
-/
import Derived.Test.YtceimgjcikkadaaFn
import Derived.Test.YtceimgjcikkadaaInf
import Derived.Test.YtceimgjcikkadaaCon1
namespace Go.Proofs.Ytceimgjcikkadaa
open Go Go.Tc Go.Fn
set_option linter.unusedVariables false

set_option maxHeartbeats 40000000 in
theorem c_spec_l13Several (A : Nat → Prop) (w : World) (hA : ∀ k, A k → k < w.heap.size) (v0_ : Value) (p0 : GMulti) (hp0 : RdA A w.heap.size w v0_ p0) (v1_ : Value) (p1 : (List Int)) (hp1 : Rd A w v1_ p1) (p2 : Int) (r : Gl13Move) (hr : F_spec_l13Several p0 p1 p2 = some r) :
    Con Try.prog 107 [v0_, v1_, .int .i64 p2] A w (fun x_ : Value × List Nat => .agg #[.bool r.ok, .int .i64 r.write, .int .i64 r.move, x_.1]) (fun x_ => [.tkn x_.1 r.next x_.2]) := by
  refine Con_of (v := fun (r : Gl13Move) (x_ : Value × List Nat) => .agg #[.bool r.ok, .int .i64 r.write, .int .i64 r.move, x_.1]) (fs := fun r x_ => [.tkn x_.1 r.next x_.2]) Try.func107 rfl Try.ntmps107 rfl (((SH.start hA).start_pa' rfl hp0).start_rd rfl hp1) rfl ?_ hr
  unfold F_spec_l13Several
  refine J_seq ?_
  refine J_region ?_
  refine JL_st (wants_none rfl) rfl (st_alloc zi_129 rfl) (fun b1 => ?_)
  refine JL_nil ?_
  refine N_then ?_
  refine J_seq ?_
  refine J_region ?_
  refine JL_q (wants_none rfl) rfl (ex_move rfl) ?_
  refine JL_q (wants_none rfl) rfl (ex_move rfl) ?_
  refine JL_q (wants_none rfl) rfl (ex_nilCheck_pa 2 rfl rfl) ?_
  refine JL_st (wants_none rfl) rfl (st_field_pa 2 (GMulti.at_Symbols _) fi_144_1 rfl rfl rfl) (fun q2 => ?_)
  refine JL_st (wants_none rfl) rfl (st_load_pa_o 0 (opens_int _) ti_2 rfl rfl) (fun _ => ?_)
  refine JL_bnd fun u4 hu5 => ?_
  refine JL_q (wants_none rfl) rfl (ex_rem rfl rfl (nz_ne hu5)) ?_
  refine JL_q (wants_none rfl) rfl (ex_assign rfl) ?_
  refine JL_nil ?_
  refine N_then ?_
  refine J_seq ?_
  refine J_region ?_
  refine JL_q (wants_none rfl) rfl (ex_move rfl) ?_
  refine JL_q (wants_none rfl) rfl (ex_move rfl) ?_
  refine JL_q (wants_none rfl) rfl (ex_nilCheck_pa 3 rfl rfl) ?_
  refine JL_st (wants_none rfl) rfl (st_field_pa 3 (GMulti.at_Symbols _) fi_144_1 rfl rfl rfl) (fun q6 => ?_)
  refine JL_st (wants_none rfl) rfl (st_load_pa_o 0 (opens_int _) ti_2 rfl rfl) (fun _ => ?_)
  refine JL_q (wants_none rfl) rfl (ex_geq rfl rfl) ?_
  refine JL_q (wants_none rfl) rfl (ex_assign rfl) ?_
  refine JL_nil ?_
  refine N_then ?_
  refine J_seq ?_
  refine J_seq ?_
  refine J_region ?_
  refine JL_q (wants_none rfl) rfl (ex_move rfl) ?_
  refine JL_bnd fun y8 hy9 => ?_
  refine JL_st (wants_none rfl) rfl (st_index 3 Try.underlying35 ti_2 rfl rfl rfl hy9) (fun q10 => ?_)
  refine JL_st (wants_none rfl) rfl (st_load_pt_o 0 (opens_int _) ti_2 rfl rfl) (fun _ => ?_)
  refine JL_q (wants_none rfl) rfl (ex_eql rfl rfl) ?_
  refine JL_nil ?_
  refine N_then ?_
  refine J_if rfl (fun h12 => ?_) (fun h12 => ?_)
  · refine J_seq ?_
    refine J_seq ?_
    refine J_region ?_
    refine JL_q (wants_none rfl) rfl (ex_move rfl) ?_
    refine JL_bnd fun y13 hy14 => ?_
    refine JL_st (wants_none rfl) rfl (st_index 4 Try.underlying35 ti_2 rfl rfl rfl hy14) (fun q15 => ?_)
    refine JL_st (wants_none rfl) rfl (st_load_pt_o 0 (opens_int _) ti_2 rfl rfl) (fun _ => ?_)
    refine JL_q (wants_none rfl) rfl (ex_eql rfl rfl) ?_
    refine JL_nil ?_
    refine N_then ?_
    refine J_if rfl (fun h17 => ?_) (fun h17 => ?_)
    · refine J_seq ?_
      refine J_region ?_
      refine JL_q (wants_none rfl) rfl (ex_move rfl) ?_
      refine JL_q (wants_none rfl) rfl (ex_move rfl) ?_
      refine JL_q (wants_none rfl) rfl (ex_move rfl) ?_
      refine JL_bnd fun y18 hy19 => ?_
      refine JL_st (wants_none rfl) rfl (st_index 5 Try.underlying35 ti_2 rfl rfl rfl hy19) (fun q20 => ?_)
      refine JL_st (wants_none rfl) rfl (st_load_pt_o 0 (opens_int _) ti_2 rfl rfl) (fun _ => ?_)
      refine JL_bnd fun r22 hr23 => ?_
      refine JL_call (wants_none rfl) rfl Try.call111 rfl (Ca_self (fun _ => rfl) fun w hh => c_spec_l13Look _ w (fun _ hk => hk.elim) _ _ (hh.pa0 7 rfl) _ _ hr23) (fun x24 => ?_)
      refine JL_bnd fun r25 hr26 => ?_
      refine JL_call (wants_none rfl) rfl Try.call110 rfl (Ca_self (fun _ => rfl) fun w hh => c_spec_l13Go _ w (fun _ hk => hk.elim) _ _ _ _ (hh.ow0 0 rfl) _ hr26) (fun x27 => ?_)
      refine JL_ctx (fun w hh => hh.tokf 1 rfl rfl) ?_
      refine JL_ctx (fun w hh => hh.sub_rd 2 rfl (hh.pr 1 rfl)) ?_
      refine JL_ctx (fun w hh => hh.sub_tkn 1 rfl (hh.pr 2 rfl)) ?_
      refine JL_sk (wants_none rfl) (sk_store_bx' 9 ti_129 rfl rfl (fun w hh => (cv_aggs ⟨cv_bool, cv_int, cv_int, (hh.cv 0 rfl), trivial⟩)) rfl rfl rfl rfl) ?_
      refine JL_nil ?_
      refine N_then ?_
      refine J_ret ?_
      refine N_then_ret ?_
      refine N_then_ret ?_
      exact N_ret1 rfl (rv_cell 9 rfl rfl ti_129 rfl) (fun w hh => ⟨(x27, ((x24 : Value).ownBlock.toList ++ [])), rfl, hh.sel [1] rfl⟩)
    · refine J_skip ?_
      refine N_then ?_
      refine J_seq ?_
      refine J_draw [4] (by kernel_rfl) ?_
      refine JP_take (i := 0) [0, 1, 2, 3, 5, 6] [4] rfl (by kernel_rfl) (by kernel_rfl) (by kernel_rfl) rfl rfl (wants_none rfl) rfl (ex_move rfl) ?_
      refine JP_take (i := 1) [0, 1, 2, 3, 5, 6] [4] rfl (by kernel_rfl) (by kernel_rfl) (by kernel_rfl) rfl rfl (wants_none rfl) rfl (ex_move rfl) ?_
      refine JP_bnd fun y28 hy29 => ?_
      refine JP_sq (i := 2) [4] rfl (by kernel_rfl) (by kernel_rfl) (by kernel_rfl) rfl (wants_none rfl) rfl (sq_index 5 Try.underlying35 ti_2 rfl rfl rfl hy29) (fun q30 => ?_)
      refine JP_sq (i := 3) [5] rfl (by kernel_rfl) (by kernel_rfl) (by kernel_rfl) rfl (wants_none rfl) rfl (sq_load_pt_o 0 (opens_int _) ti_2 rfl rfl) (fun _ => ?_)
      refine JP_take (i := 4) [0, 1, 2, 3, 4, 6, 7] [5] rfl (by kernel_rfl) (by kernel_rfl) (by kernel_rfl) rfl rfl (wants_none rfl) rfl (ex_move rfl) ?_
      refine JP_bnd fun y32 hy33 => ?_
      refine JP_sq (i := 5) [5] rfl (by kernel_rfl) (by kernel_rfl) (by kernel_rfl) rfl (wants_none rfl) rfl (sq_index 6 Try.underlying35 ti_2 rfl rfl rfl hy33) (fun q34 => ?_)
      refine JP_sq (i := 6) [6] rfl (by kernel_rfl) (by kernel_rfl) (by kernel_rfl) rfl (wants_none rfl) rfl (sq_load_pt_o 0 (opens_int _) ti_2 rfl rfl) (fun _ => ?_)
      refine JP_take (i := 7) [0, 1, 2, 3, 4, 5, 7, 8] [6] rfl (by kernel_rfl) (by kernel_rfl) (by kernel_rfl) rfl rfl (wants_none rfl) rfl (ex_sub rfl rfl) ?_
      refine JP_go [0, 1, 2, 3, 4, 5, 7, 8] [6] rfl rfl rfl (fun w37 h1_38 hp36 => ?_)
      refine JD_one (i := 8) (by kernel_rfl) ?_
      refine JO_st rfl (wants_none rfl) rfl (st_buildSlice (vs := [.int .i64 4, .int .i64 y28, .int .i64 (w64 (y32 - 1))]) ([4, y28, (w64 (y32 - 1))] : List Int) Try.underlying35 ti_2 zi_2 rfl rfl rfl (fun w hh => ⟨(Rd.mk_int _ _ _), (Rd.mk_int _ _ _), (Rd.mk_int _ _ _), trivial⟩)) (fun _ hk => nomatch hk) (fun b39 => ?_)
      refine JD_bnd fun r40 hr41 => ?_
      refine JD_one (i := 9) (by kernel_rfl) ?_
      refine JO_call rfl (wants_none rfl) rfl Try.call110 rfl (Ca_self (fun _ => rfl) fun w hh => c_spec_l13Go _ w (fun _ hk => hk.elim) _ _ _ _ (hh.ow0 0 rfl) _ hr41) (fun x42 => ?_)
      refine JD_ctx (fun w hh => hh.tokf 1 rfl rfl) (tokf_owns (i := 1) rfl) ?_
      refine JD_ctx (fun w hh => hh.sub_rd 2 rfl (hh.pr 1 rfl)) (fun _ hb => hb) ?_
      refine JD_ctx (fun w hh => hh.sub_tkn 1 rfl (hh.pr 2 rfl)) (tkn_owns (i := 1) rfl) ?_
      refine JD_one (i := 10) (by kernel_rfl) ?_
      refine JO_sk rfl (wants_none rfl) (sk_store_bx' 10 ti_129 rfl rfl (fun w hh => (cv_aggs ⟨cv_bool, cv_int, cv_int, (hh.cv 0 rfl), trivial⟩)) rfl rfl rfl rfl) (sub_bx 0 rfl) ?_
      refine JD_done (by kernel_rfl) ?_
      refine N_then ?_
      refine J_ret ?_
      refine N_then_ret ?_
      exact N_ret1 rfl (rv_cell 10 rfl rfl ti_129 rfl) (fun w hh => ⟨(x42, (((.slice (some ⟨b39, 0, none⟩) 3 3) : Value).ownBlock.toList ++ [])), rfl, hh.sel [1] rfl⟩)
  · refine J_skip ?_
    refine N_then ?_
    refine J_seq ?_
    refine J_seq ?_
    refine J_region ?_
    refine JL_q (wants_none rfl) rfl (ex_move rfl) ?_
    refine JL_bnd fun y43 hy44 => ?_
    refine JL_st (wants_none rfl) rfl (st_index 4 Try.underlying35 ti_2 rfl rfl rfl hy44) (fun q45 => ?_)
    refine JL_st (wants_none rfl) rfl (st_load_pt_o 0 (opens_int _) ti_2 rfl rfl) (fun _ => ?_)
    refine JL_q (wants_none rfl) rfl (ex_eql rfl rfl) ?_
    refine JL_nil ?_
    refine N_then ?_
    refine J_if rfl (fun h47 => ?_) (fun h47 => ?_)
    · refine J_seq ?_
      refine J_region ?_
      refine JL_q (wants_none rfl) rfl (ex_move rfl) ?_
      refine JL_bnd fun y48 hy49 => ?_
      refine JL_st (wants_none rfl) rfl (st_index 5 Try.underlying35 ti_2 rfl rfl rfl hy49) (fun q50 => ?_)
      refine JL_st (wants_none rfl) rfl (st_load_pt_o 0 (opens_int _) ti_2 rfl rfl) (fun _ => ?_)
      refine JL_q (wants_none rfl) rfl (ex_assign rfl) ?_
      refine JL_nil ?_
      refine N_then ?_
      refine J_seq ?_
      refine J_region ?_
      refine JL_q (wants_none rfl) rfl (ex_move rfl) ?_
      refine JL_bnd fun y52 hy53 => ?_
      refine JL_st (wants_none rfl) rfl (st_index 6 Try.underlying35 ti_2 rfl rfl rfl hy53) (fun q54 => ?_)
      refine JL_st (wants_none rfl) rfl (st_load_pt_o 0 (opens_int _) ti_2 rfl rfl) (fun _ => ?_)
      refine JL_q (wants_none rfl) rfl (ex_assign rfl) ?_
      refine JL_nil ?_
      refine N_then ?_
      refine J_seq ?_
      refine J_region ?_
      refine JL_q (wants_none rfl) rfl (ex_move rfl) ?_
      refine JL_bnd fun z56 hz57 => ?_
      refine JL_st (wants_none rfl) rfl (st_slice 7 Try.underlying35 ti_2 rfl rfl rfl rfl hz57) (fun v58 => ?_)
      refine JL_bnd fun r59 hr60 => ?_
      refine JL_call (wants_none rfl) rfl Try.call60 rfl (Ca_self (fun _ => rfl) fun w hh => c_spec_l00Own _ w (fun _ hk => hk.elim) _ _ (hh.rd0 0 rfl) _ hr60) (fun x61 => ?_)
      refine JL_q (wants_none rfl) rfl (ex_assign rfl) ?_
      refine JL_nil ?_
      refine N_then ?_
      refine J_seq ?_
      refine J_cut' (S' := (List Int)) (G' := Unit) (fun s62 _ => [(0, v0_), (2, .int .i64 p2), (6, .pointer (some ⟨b1, 0, none⟩)), (9, .int .i64 y48), (10, .int .i64 y52), (11, x61)]) (fun s62 _ => [.pa v0_ p0, .bx b1 129 [.bool false, .int .i64 0, .int .i64 0, .slice none 0 0], .ow 2 x61 s62]) ?_ (fun s62 g63 => ?_)
      · refine J_seq ?_
        refine J_region ?_
        refine JL_q (wants_none rfl) rfl (ex_move rfl) ?_
        refine JL_q (wants_none rfl) rfl (ex_move rfl) ?_
        refine JL_cond (fun h64 => ?_) (fun h64 => ?_)
        · refine JL_q (wants_some rfl rfl rfl h64) rfl (ex_move rfl) ?_
          refine JL_q (wants_some rfl rfl rfl h64) rfl (ex_move rfl) ?_
          refine JL_bnd fun y65 hy66 => ?_
          refine JL_ow_open (v := x61) 0 rfl hy66 ?_; rintro b67 cap68 rfl
          refine JL_q (wants_some rfl rfl rfl h64) rfl (ex_index_ow 0 Try.underlying35 ti_2 rfl rfl rfl hy66) ?_
          refine JL_q (wants_some rfl rfl rfl h64) rfl (ex_load_ow_int 0 ti_2 rfl rfl hy66) ?_
          refine JL_q (wants_some rfl rfl rfl h64) rfl (ex_lss rfl rfl) ?_
          refine JL_q (wants_none rfl) rfl (ex_pick_true rfl h64 rfl) ?_
          refine JL_nil ?_
          refine N_then ?_
          refine J_if rfl (fun h70 => ?_) (fun h70 => ?_)
          · refine J_region ?_
            refine JL_q (wants_none rfl) rfl (ex_move rfl) ?_
            refine JL_q (wants_none rfl) rfl (ex_move rfl) ?_
            refine JL_q (wants_none rfl) rfl (ex_move rfl) ?_
            refine JL_bnd fun y71 hy72 => ?_
            refine JL_q (wants_none rfl) rfl (ex_index_ow 0 Try.underlying35 ti_2 rfl rfl rfl hy72) ?_
            refine JL_sk (wants_none rfl) (sk_store_ow 0 ti_2 rfl rfl rfl hy72 (fun w hh => (Rd.mk_int _ _ _))) ?_
            refine JL_nil ?_
            exact N_meet' () ⟨rfl, rfl, rfl, rfl, rfl, rfl, trivial⟩ [10, 8, 0] rfl rfl
          · refine J_skip ?_
            exact N_meet' () ⟨rfl, rfl, rfl, rfl, rfl, rfl, trivial⟩ [10, 8, 0] rfl rfl
        · refine JL_passed rfl rfl rfl h64 ?_
          refine JL_passed rfl rfl rfl h64 ?_
          refine JL_passed rfl rfl rfl h64 ?_
          refine JL_passed rfl rfl rfl h64 ?_
          refine JL_passed rfl rfl rfl h64 ?_
          refine JL_q (wants_none rfl) rfl (ex_pick_false rfl h64 rfl) ?_
          refine JL_nil ?_
          refine N_then ?_
          refine J_if_false rfl rfl ?_
          refine J_skip ?_
          exact N_meet' () ⟨rfl, rfl, rfl, rfl, rfl, rfl, trivial⟩ [10, 8, 0] rfl rfl
      · refine N_then ?_
        refine J_seq ?_
        refine J_seq ?_
        refine J_region ?_
        refine JL_q (wants_none rfl) rfl (ex_move rfl) ?_
        refine JL_bnd fun r73 hr74 => ?_
        refine JL_call (wants_none rfl) rfl Try.call112 rfl (Ca_of0 fun w hh => c_spec_l00Has _ w (fun _ hk => hk.elim) _ _ (hh.ow0 2 rfl) _ _ hr74) (fun _ => ?_)
        refine JL_nil ?_
        refine N_then ?_
        refine J_if rfl (fun h75 => ?_) (fun h75 => ?_)
        · refine J_seq ?_
          refine J_region ?_
          refine JL_q (wants_none rfl) rfl (ex_move rfl) ?_
          refine JL_q (wants_none rfl) rfl (ex_move rfl) ?_
          refine JL_q (wants_none rfl) rfl (ex_move rfl) ?_
          refine JL_q (wants_none rfl) rfl (ex_add rfl rfl) ?_
          refine JL_q (wants_none rfl) rfl (ex_move rfl) ?_
          refine JL_q (wants_none rfl) rfl (ex_nilCheck_pa 0 rfl rfl) ?_
          refine JL_st (wants_none rfl) rfl (st_field_pa 0 (GMulti.at_Tapes _) fi_144_0 rfl rfl rfl) (fun q76 => ?_)
          refine JL_st (wants_none rfl) rfl (st_load_pa_o 0 (opens_int _) ti_2 rfl rfl) (fun _ => ?_)
          refine JL_bnd fun u78 hu79 => ?_
          refine JL_q (wants_none rfl) rfl (ex_rem rfl rfl (nz_ne hu79)) ?_
          refine JL_st (wants_none rfl) rfl (st_buildSlice (vs := [.int .i64 0, .int .i64 y48, .int .i64 (Int.tmod (w64 (y52 + 1)) p0.Tapes)]) ([0, y48, (Int.tmod (w64 (y52 + 1)) p0.Tapes)] : List Int) Try.underlying35 ti_2 zi_2 rfl rfl rfl (fun w hh => ⟨(Rd.mk_int _ _ _), (Rd.mk_int _ _ _), (Rd.mk_int _ _ _), trivial⟩)) (fun b80 => ?_)
          refine JL_q (wants_none rfl) rfl (ex_move rfl) ?_
          refine JL_bnd fun z81 hz82 => ?_
          refine JL_st (wants_none rfl) rfl (st_append 0 Try.underlying35 ti_2 zi_2 rfl bi_2 rfl rfl rfl rfl (fun w hh => hh.src_ow 4 rfl) hz82) (fun v83 => ?_)
          refine JL_bnd fun r84 hr85 => ?_
          refine JL_call (wants_none rfl) rfl Try.call110 rfl (Ca_self (fun _ => rfl) fun w hh => c_spec_l13Go _ w (fun _ hk => hk.elim) _ _ _ _ (hh.ow0 0 rfl) _ hr85) (fun x86 => ?_)
          refine JL_ctx (fun w hh => hh.tokf 1 rfl rfl) ?_
          refine JL_ctx (fun w hh => hh.sub_rd 2 rfl (hh.pr 1 rfl)) ?_
          refine JL_ctx (fun w hh => hh.sub_tkn 1 rfl (hh.pr 2 rfl)) ?_
          refine JL_sk (wants_none rfl) (sk_store_bx' 6 ti_129 rfl rfl (fun w hh => (cv_aggs ⟨cv_bool, cv_int, cv_int, (hh.cv 0 rfl), trivial⟩)) rfl rfl rfl rfl) ?_
          refine JL_nil ?_
          refine N_then ?_
          refine J_ret ?_
          refine N_then_ret ?_
          refine N_then_ret ?_
          exact N_ret1 rfl (rv_cell 6 rfl rfl ti_129 rfl) (fun w hh => ⟨(x86, ((v83 : Value).ownBlock.toList ++ [])), rfl, hh.sel [1] rfl⟩)
        · refine J_skip ?_
          refine N_then ?_
          refine J_seq ?_
          refine J_region ?_
          refine JL_q (wants_none rfl) rfl (ex_move rfl) ?_
          refine JL_q (wants_none rfl) rfl (ex_move rfl) ?_
          refine JL_q (wants_none rfl) rfl (ex_move rfl) ?_
          refine JL_bnd fun r87 hr88 => ?_
          refine JL_call (wants_none rfl) rfl Try.call113 rfl (Ca_of0 fun w hh => c_spec_l06RuleOf _ w (fun _ hk => hk.elim) _ _ (hh.pa0 0 rfl) _ _ _ (hh.ow0 2 rfl) _ hr88) (fun _ => ?_)
          refine JL_q (wants_none rfl) rfl (ex_assign rfl) ?_
          refine JL_nil ?_
          refine N_then ?_
          refine J_seq ?_
          refine J_seq ?_
          refine J_region ?_
          refine JL_q (wants_none rfl) rfl (ex_move rfl) ?_
          refine JL_q (wants_none rfl) rfl (ex_lss rfl rfl) ?_
          refine JL_nil ?_
          refine N_then ?_
          refine J_if rfl (fun h89 => ?_) (fun h89 => ?_)
          · refine J_seq ?_
            refine J_region ?_
            refine JL_q (wants_none rfl) rfl (ex_build si_129 rfl .nil (fun w hh => trivial)) ?_
            refine JL_sk (wants_none rfl) (sk_store_bx' 1 ti_129 rfl rfl (fun w hh => (cv_aggs ⟨cv_bool, cv_int, cv_int, cv_slice, trivial⟩)) rfl rfl rfl rfl) ?_
            refine JL_nil ?_
            refine N_then ?_
            refine J_ret ?_
            refine N_then_ret ?_
            refine N_then_ret ?_
            refine N_ctx (fun w hh => SH.ow_nil (α := Int) 2 hh) ?_
            refine N_ctx (fun w hh => hh.tokf 0 rfl rfl) ?_
            exact N_ret1 rfl (rv_cell 3 rfl rfl ti_129 rfl) (fun w hh => ⟨((.slice none 0 0 : Value), ((.slice none 0 0 : Value).ownBlock.toList ++ [])), rfl, hh.sel [0] rfl⟩)
          · refine J_skip ?_
            refine N_then ?_
            refine J_seq ?_
            refine J_region ?_
            refine JL_q (wants_none rfl) rfl (ex_move rfl) ?_
            refine JL_q (wants_none rfl) rfl (ex_move rfl) ?_
            refine JL_q (wants_none rfl) rfl (ex_move rfl) ?_
            refine JL_bnd fun r90 hr91 => ?_
            refine JL_call (wants_none rfl) rfl Try.call114 rfl (Ca_self (fun _ => rfl) fun w hh => c_spec_l13Put _ w (fun _ hk => hk.elim) _ _ (hh.pa0 0 rfl) _ _ _ _ hr91) (fun x92 => ?_)
            obtain ⟨x92_0, x92_1⟩ := x92
            refine JL_ctx (fun w hh => hh.tkn_rd 0 rfl) ?_
            refine JL_sk (wants_none rfl) (sk_store_bx' 3 ti_129 rfl rfl (fun w hh => (cv_aggs ⟨cv_bool, cv_int, cv_int, (hh.cv 0 rfl), trivial⟩)) rfl rfl rfl rfl) ?_
            refine JL_nil ?_
            refine N_then ?_
            refine J_ret ?_
            refine N_then_ret ?_
            exact N_ret1 rfl (rv_cell 3 rfl rfl ti_129 rfl) (fun w hh => ⟨(x92_0, x92_1), rfl, hh.sel [1] rfl⟩)
    · refine J_skip ?_
      refine N_then ?_
      refine J_seq ?_
      refine J_region ?_
      refine JL_q (wants_none rfl) rfl (ex_move rfl) ?_
      refine JL_bnd fun y93 hy94 => ?_
      refine JL_st (wants_none rfl) rfl (st_index 5 Try.underlying35 ti_2 rfl rfl rfl hy94) (fun q95 => ?_)
      refine JL_st (wants_none rfl) rfl (st_load_pt_o 0 (opens_int _) ti_2 rfl rfl) (fun _ => ?_)
      refine JL_q (wants_none rfl) rfl (ex_assign rfl) ?_
      refine JL_nil ?_
      refine N_then ?_
      refine J_seq ?_
      refine J_region ?_
      refine JL_q (wants_none rfl) rfl (ex_move rfl) ?_
      refine JL_bnd fun y97 hy98 => ?_
      refine JL_st (wants_none rfl) rfl (st_index 6 Try.underlying35 ti_2 rfl rfl rfl hy98) (fun q99 => ?_)
      refine JL_st (wants_none rfl) rfl (st_load_pt_o 0 (opens_int _) ti_2 rfl rfl) (fun _ => ?_)
      refine JL_q (wants_none rfl) rfl (ex_assign rfl) ?_
      refine JL_nil ?_
      refine N_then ?_
      refine J_seq ?_
      refine J_region ?_
      refine JL_q (wants_none rfl) rfl (ex_move rfl) ?_
      refine JL_bnd fun y101 hy102 => ?_
      refine JL_st (wants_none rfl) rfl (st_index 7 Try.underlying35 ti_2 rfl rfl rfl hy102) (fun q103 => ?_)
      refine JL_st (wants_none rfl) rfl (st_load_pt_o 0 (opens_int _) ti_2 rfl rfl) (fun _ => ?_)
      refine JL_q (wants_none rfl) rfl (ex_assign rfl) ?_
      refine JL_nil ?_
      refine N_then ?_
      refine J_seq ?_
      refine J_seq ?_
      refine J_region ?_
      refine JL_q (wants_none rfl) rfl (ex_move rfl) ?_
      refine JL_bnd fun y105 hy106 => ?_
      refine JL_st (wants_none rfl) rfl (st_index 8 Try.underlying35 ti_2 rfl rfl rfl hy106) (fun q107 => ?_)
      refine JL_st (wants_none rfl) rfl (st_load_pt_o 0 (opens_int _) ti_2 rfl rfl) (fun _ => ?_)
      refine JL_nil ?_
      refine N_then ?_
      refine J_block ?_
      refine J_seq ?_
      refine J_region ?_
      refine JL_q (wants_none rfl) rfl (ex_eql rfl rfl) ?_
      refine JL_q (wants_none rfl) rfl (ex_assign rfl) ?_
      refine JL_nil ?_
      refine N_then ?_
      refine J_if rfl (fun h109 => ?_) (fun h109 => ?_)
      · refine J_seq ?_
        refine J_region ?_
        refine JL_q (wants_none rfl) rfl (ex_move rfl) ?_
        refine JL_q (wants_none rfl) rfl (ex_nilCheck_pa 10 rfl rfl) ?_
        refine JL_st (wants_none rfl) rfl (st_field_pa 10 (GMulti.at_Rules _) fi_144_3 rfl rfl rfl) (fun q110 => ?_)
        refine JL_st (wants_none rfl) rfl (st_load_pa_o 0 (opens_sl _) ti_142 rfl rfl) (fun v111 => ?_)
        refine JL_q (wants_none rfl) rfl (ex_move rfl) ?_
        refine JL_bnd fun y112 hy113 => ?_
        refine JL_st (wants_none rfl) rfl (st_index 0 Try.underlying142 ti_150 rfl rfl rfl hy113) (fun q114 => ?_)
        refine JL_st (wants_none rfl) rfl (st_field_pt 0 (GMultiRule.at_Move _) fi_150_3 rfl rfl rfl) (fun q115 => ?_)
        refine JL_st (wants_none rfl) rfl (st_load_pt_o 0 (opens_sl _) ti_35 rfl rfl) (fun v116 => ?_)
        refine JL_q (wants_none rfl) rfl (ex_move rfl) ?_
        refine JL_bnd fun y117 hy118 => ?_
        refine JL_st (wants_none rfl) rfl (st_index 0 Try.underlying35 ti_2 rfl rfl rfl hy118) (fun q119 => ?_)
        refine JL_st (wants_none rfl) rfl (st_load_pt_o 0 (opens_int _) ti_2 rfl rfl) (fun _ => ?_)
        refine JL_q (wants_none rfl) rfl (ex_assign rfl) ?_
        refine JL_nil ?_
        refine N_then ?_
        refine J_seq ?_
        refine J_seq ?_
        refine J_region ?_
        refine JL_q (wants_none rfl) rfl (ex_move rfl) ?_
        refine JL_bnd fun y121 hy122 => ?_
        refine JL_st (wants_none rfl) rfl (st_index 15 Try.underlying35 ti_2 rfl rfl rfl hy122) (fun q123 => ?_)
        refine JL_st (wants_none rfl) rfl (st_load_pt_o 0 (opens_int _) ti_2 rfl rfl) (fun _ => ?_)
        refine JL_q (wants_none rfl) rfl (ex_gtr rfl rfl) ?_
        refine JL_nil ?_
        refine N_then ?_
        refine J_if rfl (fun h125 => ?_) (fun h125 => ?_)
        · refine J_seq ?_
          refine J_region ?_
          refine JL_q (wants_none rfl) rfl (ex_move rfl) ?_
          refine JL_q (wants_none rfl) rfl (ex_move rfl) ?_
          refine JL_q (wants_none rfl) rfl (ex_move rfl) ?_
          refine JL_q (wants_none rfl) rfl (ex_move rfl) ?_
          refine JL_q (wants_none rfl) rfl (ex_move rfl) ?_
          refine JL_q (wants_none rfl) rfl (ex_move rfl) ?_
          refine JL_bnd fun y126 hy127 => ?_
          refine JL_st (wants_none rfl) rfl (st_index 16 Try.underlying35 ti_2 rfl rfl rfl hy127) (fun q128 => ?_)
          refine JL_st (wants_none rfl) rfl (st_load_pt_o 0 (opens_int _) ti_2 rfl rfl) (fun _ => ?_)
          refine JL_q (wants_none rfl) rfl (ex_sub rfl rfl) ?_
          refine JL_st (wants_none rfl) rfl (st_buildSlice (vs := [.int .i64 1, .int .i64 y93, .int .i64 y97, .int .i64 y101, .int .i64 (w64 (y126 - 1))]) ([1, y93, y97, y101, (w64 (y126 - 1))] : List Int) Try.underlying35 ti_2 zi_2 rfl rfl rfl (fun w hh => ⟨(Rd.mk_int _ _ _), (Rd.mk_int _ _ _), (Rd.mk_int _ _ _), (Rd.mk_int _ _ _), (Rd.mk_int _ _ _), trivial⟩)) (fun b130 => ?_)
          refine JL_bnd fun r131 hr132 => ?_
          refine JL_call (wants_none rfl) rfl Try.call110 rfl (Ca_self (fun _ => rfl) fun w hh => c_spec_l13Go _ w (fun _ hk => hk.elim) _ _ _ _ (hh.ow0 0 rfl) _ hr132) (fun x133 => ?_)
          refine JL_ctx (fun w hh => hh.tokf 1 rfl rfl) ?_
          refine JL_ctx (fun w hh => hh.sub_rd 2 rfl (hh.pr 1 rfl)) ?_
          refine JL_ctx (fun w hh => hh.sub_tkn 1 rfl (hh.pr 2 rfl)) ?_
          refine JL_sk (wants_none rfl) (sk_store_bx' 20 ti_129 rfl rfl (fun w hh => (cv_aggs ⟨cv_bool, cv_int, cv_int, (hh.cv 0 rfl), trivial⟩)) rfl rfl rfl rfl) ?_
          refine JL_nil ?_
          refine N_then ?_
          refine J_ret ?_
          refine N_then_ret ?_
          refine N_block_ret ?_
          refine N_then_ret ?_
          exact N_ret1 rfl (rv_cell 20 rfl rfl ti_129 rfl) (fun w hh => ⟨(x133, (((.slice (some ⟨b130, 0, none⟩) 5 5) : Value).ownBlock.toList ++ [])), rfl, hh.sel [1] rfl⟩)
        · refine J_skip ?_
          refine N_then ?_
          refine J_seq ?_
          refine J_draw [15] (by kernel_rfl) ?_
          refine JP_take (i := 0) [0, 1, 2, 3, 4, 5, 6, 7, 8, 9, 10, 11, 12, 13, 14, 16, 17] [15] rfl (by kernel_rfl) (by kernel_rfl) (by kernel_rfl) rfl rfl (wants_none rfl) rfl (ex_move rfl) ?_
          refine JP_take (i := 1) [0, 1, 2, 3, 4, 5, 6, 7, 8, 9, 10, 11, 12, 13, 14, 16, 17] [15] rfl (by kernel_rfl) (by kernel_rfl) (by kernel_rfl) rfl rfl (wants_none rfl) rfl (ex_move rfl) ?_
          refine JP_take (i := 2) [0, 1, 2, 3, 4, 5, 6, 7, 8, 9, 10, 11, 12, 13, 14, 16, 17] [15] rfl (by kernel_rfl) (by kernel_rfl) (by kernel_rfl) rfl rfl (wants_none rfl) rfl (ex_nilCheck_pa 16 rfl rfl) ?_
          refine JP_sq (i := 3) [15] rfl (by kernel_rfl) (by kernel_rfl) (by kernel_rfl) rfl (wants_none rfl) rfl (sq_field_pa 17 (GMulti.at_Symbols _) fi_144_1 rfl rfl rfl) (fun q134 => ?_)
          refine JP_sq (i := 4) [16] rfl (by kernel_rfl) (by kernel_rfl) (by kernel_rfl) rfl (wants_none rfl) rfl (sq_load_pa_o 0 (opens_int _) ti_2 rfl rfl) (fun _ => ?_)
          refine JP_take (i := 5) [0, 1, 2, 3, 4, 5, 6, 7, 8, 9, 10, 11, 12, 13, 14, 15, 17, 18] [16] rfl (by kernel_rfl) (by kernel_rfl) (by kernel_rfl) rfl rfl (wants_none rfl) rfl (ex_add rfl rfl) ?_
          refine JP_take (i := 6) [0, 1, 2, 3, 4, 5, 6, 7, 8, 9, 10, 11, 12, 13, 14, 15, 17, 18] [16] rfl (by kernel_rfl) (by kernel_rfl) (by kernel_rfl) rfl rfl (wants_none rfl) rfl (ex_move rfl) ?_
          refine JP_take (i := 7) [0, 1, 2, 3, 4, 5, 6, 7, 8, 9, 10, 11, 12, 13, 14, 15, 17, 18] [16] rfl (by kernel_rfl) (by kernel_rfl) (by kernel_rfl) rfl rfl (wants_none rfl) rfl (ex_neg rfl) ?_
          refine JP_take (i := 8) [0, 1, 2, 3, 4, 5, 6, 7, 8, 9, 10, 11, 12, 13, 14, 15, 17, 18] [16] rfl (by kernel_rfl) (by kernel_rfl) (by kernel_rfl) rfl rfl (wants_none rfl) rfl (ex_move rfl) ?_
          refine JP_take (i := 9) [0, 1, 2, 3, 4, 5, 6, 7, 8, 9, 10, 11, 12, 13, 14, 15, 17, 18] [16] rfl (by kernel_rfl) (by kernel_rfl) (by kernel_rfl) rfl rfl (wants_none rfl) rfl (ex_move rfl) ?_
          refine JP_take (i := 10) [0, 1, 2, 3, 4, 5, 6, 7, 8, 9, 10, 11, 12, 13, 14, 15, 17, 18] [16] rfl (by kernel_rfl) (by kernel_rfl) (by kernel_rfl) rfl rfl (wants_none rfl) rfl (ex_move rfl) ?_
          refine JP_take (i := 11) [0, 1, 2, 3, 4, 5, 6, 7, 8, 9, 10, 11, 12, 13, 14, 15, 17, 18] [16] rfl (by kernel_rfl) (by kernel_rfl) (by kernel_rfl) rfl rfl (wants_none rfl) rfl (ex_move rfl) ?_
          refine JP_take (i := 12) [0, 1, 2, 3, 4, 5, 6, 7, 8, 9, 10, 11, 12, 13, 14, 15, 17, 18] [16] rfl (by kernel_rfl) (by kernel_rfl) (by kernel_rfl) rfl rfl (wants_none rfl) rfl (ex_nilCheck_pa 17 rfl rfl) ?_
          refine JP_sq (i := 13) [16] rfl (by kernel_rfl) (by kernel_rfl) (by kernel_rfl) rfl (wants_none rfl) rfl (sq_field_pa 18 (GMulti.at_Tapes _) fi_144_0 rfl rfl rfl) (fun q136 => ?_)
          refine JP_sq (i := 14) [17] rfl (by kernel_rfl) (by kernel_rfl) (by kernel_rfl) rfl (wants_none rfl) rfl (sq_load_pa_o 0 (opens_int _) ti_2 rfl rfl) (fun _ => ?_)
          refine JP_take (i := 15) [0, 1, 2, 3, 4, 5, 6, 7, 8, 9, 10, 11, 12, 13, 14, 15, 16, 18, 19] [17] rfl (by kernel_rfl) (by kernel_rfl) (by kernel_rfl) rfl rfl (wants_none rfl) rfl (ex_sub rfl rfl) ?_
          refine JP_go [0, 1, 2, 3, 4, 5, 6, 7, 8, 9, 10, 11, 12, 13, 14, 15, 16, 18, 19] [17] rfl rfl rfl (fun w139 h1_140 hp138 => ?_)
          refine JD_one (i := 16) (by kernel_rfl) ?_
          refine JO_st rfl (wants_none rfl) rfl (st_buildSlice (vs := [.int .i64 2, .int .i64 y93, .int .i64 y97, .int .i64 y101, .int .i64 (w64 (p0.Tapes - 1))]) ([2, y93, y97, y101, (w64 (p0.Tapes - 1))] : List Int) Try.underlying35 ti_2 zi_2 rfl rfl rfl (fun w hh => ⟨(Rd.mk_int _ _ _), (Rd.mk_int _ _ _), (Rd.mk_int _ _ _), (Rd.mk_int _ _ _), (Rd.mk_int _ _ _), trivial⟩)) (fun _ hk => nomatch hk) (fun b141 => ?_)
          refine JD_bnd fun r142 hr143 => ?_
          refine JD_one (i := 17) (by kernel_rfl) ?_
          refine JO_call rfl (wants_none rfl) rfl Try.call110 rfl (Ca_self (fun _ => rfl) fun w hh => c_spec_l13Go _ w (fun _ hk => hk.elim) _ _ _ _ (hh.ow0 0 rfl) _ hr143) (fun x144 => ?_)
          refine JD_ctx (fun w hh => hh.tokf 1 rfl rfl) (tokf_owns (i := 1) rfl) ?_
          refine JD_ctx (fun w hh => hh.sub_rd 2 rfl (hh.pr 1 rfl)) (fun _ hb => hb) ?_
          refine JD_ctx (fun w hh => hh.sub_tkn 1 rfl (hh.pr 2 rfl)) (tkn_owns (i := 1) rfl) ?_
          refine JD_one (i := 18) (by kernel_rfl) ?_
          refine JO_sk rfl (wants_none rfl) (sk_store_bx' 21 ti_129 rfl rfl (fun w hh => (cv_aggs ⟨cv_bool, cv_int, cv_int, (hh.cv 0 rfl), trivial⟩)) rfl rfl rfl rfl) (sub_bx 0 rfl) ?_
          refine JD_done (by kernel_rfl) ?_
          refine N_then ?_
          refine J_ret ?_
          refine N_block_ret ?_
          refine N_then_ret ?_
          exact N_ret1 rfl (rv_cell 21 rfl rfl ti_129 rfl) (fun w hh => ⟨(x144, (((.slice (some ⟨b141, 0, none⟩) 5 5) : Value).ownBlock.toList ++ [])), rfl, hh.sel [1] rfl⟩)
      · refine J_seq ?_
        refine J_region ?_
        refine JL_q (wants_none rfl) rfl (ex_eql rfl rfl) ?_
        refine JL_q (wants_none rfl) rfl (ex_assign rfl) ?_
        refine JL_nil ?_
        refine N_then ?_
        refine J_if rfl (fun h145 => ?_) (fun h145 => ?_)
        · refine J_seq ?_
          refine J_region ?_
          refine JL_q (wants_none rfl) rfl (ex_move rfl) ?_
          refine JL_q (wants_none rfl) rfl (ex_nilCheck_pa 10 rfl rfl) ?_
          refine JL_st (wants_none rfl) rfl (st_field_pa 10 (GMulti.at_Rules _) fi_144_3 rfl rfl rfl) (fun q146 => ?_)
          refine JL_st (wants_none rfl) rfl (st_load_pa_o 0 (opens_sl _) ti_142 rfl rfl) (fun v147 => ?_)
          refine JL_q (wants_none rfl) rfl (ex_move rfl) ?_
          refine JL_bnd fun y148 hy149 => ?_
          refine JL_st (wants_none rfl) rfl (st_index 0 Try.underlying142 ti_150 rfl rfl rfl hy149) (fun q150 => ?_)
          refine JL_st (wants_none rfl) rfl (st_field_pt 0 (GMultiRule.at_Move _) fi_150_3 rfl rfl rfl) (fun q151 => ?_)
          refine JL_st (wants_none rfl) rfl (st_load_pt_o 0 (opens_sl _) ti_35 rfl rfl) (fun v152 => ?_)
          refine JL_q (wants_none rfl) rfl (ex_move rfl) ?_
          refine JL_bnd fun y153 hy154 => ?_
          refine JL_st (wants_none rfl) rfl (st_index 0 Try.underlying35 ti_2 rfl rfl rfl hy154) (fun q155 => ?_)
          refine JL_st (wants_none rfl) rfl (st_load_pt_o 0 (opens_int _) ti_2 rfl rfl) (fun _ => ?_)
          refine JL_q (wants_none rfl) rfl (ex_assign rfl) ?_
          refine JL_nil ?_
          refine N_then ?_
          refine J_seq ?_
          refine J_seq ?_
          refine J_region ?_
          refine JL_q (wants_none rfl) rfl (ex_move rfl) ?_
          refine JL_bnd fun y157 hy158 => ?_
          refine JL_st (wants_none rfl) rfl (st_index 15 Try.underlying35 ti_2 rfl rfl rfl hy158) (fun q159 => ?_)
          refine JL_st (wants_none rfl) rfl (st_load_pt_o 0 (opens_int _) ti_2 rfl rfl) (fun _ => ?_)
          refine JL_q (wants_none rfl) rfl (ex_gtr rfl rfl) ?_
          refine JL_nil ?_
          refine N_then ?_
          refine J_if rfl (fun h161 => ?_) (fun h161 => ?_)
          · refine J_seq ?_
            refine J_region ?_
            refine JL_q (wants_none rfl) rfl (ex_move rfl) ?_
            refine JL_q (wants_none rfl) rfl (ex_move rfl) ?_
            refine JL_q (wants_none rfl) rfl (ex_neg rfl) ?_
            refine JL_q (wants_none rfl) rfl (ex_move rfl) ?_
            refine JL_q (wants_none rfl) rfl (ex_move rfl) ?_
            refine JL_q (wants_none rfl) rfl (ex_move rfl) ?_
            refine JL_q (wants_none rfl) rfl (ex_move rfl) ?_
            refine JL_bnd fun y162 hy163 => ?_
            refine JL_st (wants_none rfl) rfl (st_index 16 Try.underlying35 ti_2 rfl rfl rfl hy163) (fun q164 => ?_)
            refine JL_st (wants_none rfl) rfl (st_load_pt_o 0 (opens_int _) ti_2 rfl rfl) (fun _ => ?_)
            refine JL_q (wants_none rfl) rfl (ex_sub rfl rfl) ?_
            refine JL_st (wants_none rfl) rfl (st_buildSlice (vs := [.int .i64 2, .int .i64 y93, .int .i64 y97, .int .i64 y101, .int .i64 (w64 (y162 - 1))]) ([2, y93, y97, y101, (w64 (y162 - 1))] : List Int) Try.underlying35 ti_2 zi_2 rfl rfl rfl (fun w hh => ⟨(Rd.mk_int _ _ _), (Rd.mk_int _ _ _), (Rd.mk_int _ _ _), (Rd.mk_int _ _ _), (Rd.mk_int _ _ _), trivial⟩)) (fun b166 => ?_)
            refine JL_bnd fun r167 hr168 => ?_
            refine JL_call (wants_none rfl) rfl Try.call110 rfl (Ca_self (fun _ => rfl) fun w hh => c_spec_l13Go _ w (fun _ hk => hk.elim) _ _ _ _ (hh.ow0 0 rfl) _ hr168) (fun x169 => ?_)
            refine JL_ctx (fun w hh => hh.tokf 1 rfl rfl) ?_
            refine JL_ctx (fun w hh => hh.sub_rd 2 rfl (hh.pr 1 rfl)) ?_
            refine JL_ctx (fun w hh => hh.sub_tkn 1 rfl (hh.pr 2 rfl)) ?_
            refine JL_sk (wants_none rfl) (sk_store_bx' 20 ti_129 rfl rfl (fun w hh => (cv_aggs ⟨cv_bool, cv_int, cv_int, (hh.cv 0 rfl), trivial⟩)) rfl rfl rfl rfl) ?_
            refine JL_nil ?_
            refine N_then ?_
            refine J_ret ?_
            refine N_then_ret ?_
            refine N_block_ret ?_
            refine N_then_ret ?_
            exact N_ret1 rfl (rv_cell 20 rfl rfl ti_129 rfl) (fun w hh => ⟨(x169, (((.slice (some ⟨b166, 0, none⟩) 5 5) : Value).ownBlock.toList ++ [])), rfl, hh.sel [1] rfl⟩)
          · refine J_skip ?_
            refine N_then ?_
            refine J_seq ?_
            refine J_region ?_
            refine JL_q (wants_none rfl) rfl (ex_move rfl) ?_
            refine JL_q (wants_none rfl) rfl (ex_move rfl) ?_
            refine JL_q (wants_none rfl) rfl (ex_move rfl) ?_
            refine JL_q (wants_none rfl) rfl (ex_move rfl) ?_
            refine JL_q (wants_none rfl) rfl (ex_move rfl) ?_
            refine JL_bnd fun r170 hr171 => ?_
            refine JL_call (wants_none rfl) rfl Try.call115 rfl (Ca_self (fun _ => rfl) fun w hh => c_spec_l13After _ w (fun _ hk => hk.elim) _ _ (hh.pa0 17 rfl) _ _ _ _ hr171) (fun x172 => ?_)
            refine JL_bnd fun r173 hr174 => ?_
            refine JL_call (wants_none rfl) rfl Try.call110 rfl (Ca_self (fun _ => rfl) fun w hh => c_spec_l13Go _ w (fun _ hk => hk.elim) _ _ _ _ (hh.ow0 0 rfl) _ hr174) (fun x175 => ?_)
            refine JL_ctx (fun w hh => hh.tokf 1 rfl rfl) ?_
            refine JL_ctx (fun w hh => hh.sub_rd 2 rfl (hh.pr 1 rfl)) ?_
            refine JL_ctx (fun w hh => hh.sub_tkn 1 rfl (hh.pr 2 rfl)) ?_
            refine JL_sk (wants_none rfl) (sk_store_bx' 19 ti_129 rfl rfl (fun w hh => (cv_aggs ⟨cv_bool, cv_int, cv_int, (hh.cv 0 rfl), trivial⟩)) rfl rfl rfl rfl) ?_
            refine JL_nil ?_
            refine N_then ?_
            refine J_ret ?_
            refine N_block_ret ?_
            refine N_then_ret ?_
            exact N_ret1 rfl (rv_cell 19 rfl rfl ti_129 rfl) (fun w hh => ⟨(x175, ((x172 : Value).ownBlock.toList ++ [])), rfl, hh.sel [1] rfl⟩)
        · refine J_skip ?_
          refine N_block ?_
          refine N_then ?_
          refine J_seq ?_
          refine J_seq ?_
          refine J_cut' (S' := Bool) (G' := Unit) (fun s176 _ => [(0, v0_), (2, .int .i64 p2), (6, .pointer (some ⟨b1, 0, none⟩)), (13, .int .i64 y93), (14, .int .i64 y97), (15, .int .i64 y101), (207, .bool s176)]) (fun s176 _ => [.pa v0_ p0, .bx b1 129 [.bool false, .int .i64 0, .int .i64 0, .slice none 0 0]]) ?_ (fun s176 g177 => ?_)
          · refine J_region ?_
            refine JL_q (wants_none rfl) rfl (ex_move rfl) ?_
            refine JL_q (wants_none rfl) rfl (ex_move rfl) ?_
            refine JL_cond (fun h178 => ?_) (fun h178 => ?_)
            · refine JL_q (wants_some rfl rfl rfl h178) rfl (ex_move rfl) ?_
              refine JL_q (wants_some rfl rfl rfl h178) rfl (ex_move rfl) ?_
              refine JL_bnd fun u179 hu180 => ?_
              refine JL_q (wants_some rfl rfl rfl h178) rfl (ex_shr rfl rfl (nneg_le hu180)) ?_
              refine JL_q (wants_some rfl rfl rfl h178) rfl (ex_and rfl rfl) ?_
              refine JL_q (wants_some rfl rfl rfl h178) rfl (ex_eql rfl rfl) ?_
              refine JL_q (wants_none rfl) rfl (ex_pick_true rfl h178 rfl) ?_
              refine JL_nil ?_
              exact N_meet' () ⟨rfl, rfl, rfl, rfl, rfl, rfl, rfl, trivial⟩ [10, 8] rfl rfl
            · refine JL_passed rfl rfl rfl h178 ?_
              refine JL_passed rfl rfl rfl h178 ?_
              refine JL_passed rfl rfl rfl h178 ?_
              refine JL_passed rfl rfl rfl h178 ?_
              refine JL_passed rfl rfl rfl h178 ?_
              refine JL_q (wants_none rfl) rfl (ex_pick_false rfl h178 rfl) ?_
              refine JL_nil ?_
              exact N_meet' () ⟨rfl, rfl, rfl, rfl, rfl, rfl, rfl, trivial⟩ [10, 8] rfl rfl
          · refine N_then ?_
            refine J_if rfl (fun h181 => ?_) (fun h181 => ?_)
            · refine J_seq ?_
              refine J_region ?_
              refine JL_q (wants_none rfl) rfl (ex_move rfl) ?_
              refine JL_q (wants_none rfl) rfl (ex_move rfl) ?_
              refine JL_q (wants_none rfl) rfl (ex_move rfl) ?_
              refine JL_q (wants_none rfl) rfl (ex_move rfl) ?_
              refine JL_bnd fun r182 hr183 => ?_
              refine JL_call (wants_none rfl) rfl Try.call114 rfl (Ca_self (fun _ => rfl) fun w hh => c_spec_l13Put _ w (fun _ hk => hk.elim) _ _ (hh.pa0 0 rfl) _ _ _ _ hr183) (fun x184 => ?_)
              obtain ⟨x184_0, x184_1⟩ := x184
              refine JL_ctx (fun w hh => hh.tkn_rd 0 rfl) ?_
              refine JL_sk (wants_none rfl) (sk_store_bx' 3 ti_129 rfl rfl (fun w hh => (cv_aggs ⟨cv_bool, cv_int, cv_int, (hh.cv 0 rfl), trivial⟩)) rfl rfl rfl rfl) ?_
              refine JL_nil ?_
              refine N_then ?_
              refine J_ret ?_
              refine N_then_ret ?_
              exact N_ret1 rfl (rv_cell 3 rfl rfl ti_129 rfl) (fun w hh => ⟨(x184_0, x184_1), rfl, hh.sel [1] rfl⟩)
            · refine J_skip ?_
              refine N_then ?_
              refine J_seq ?_
              refine J_region ?_
              refine JL_q (wants_none rfl) rfl (ex_move rfl) ?_
              refine JL_q (wants_none rfl) rfl (ex_move rfl) ?_
              refine JL_q (wants_none rfl) rfl (ex_move rfl) ?_
              refine JL_q (wants_none rfl) rfl (ex_move rfl) ?_
              refine JL_bnd fun r185 hr186 => ?_
              refine JL_call (wants_none rfl) rfl Try.call116 rfl (Ca_of0 fun w hh => c_spec_l13Before _ w (fun _ hk => hk.elim) _ _ (hh.pa0 0 rfl) _ _ hr186) (fun _ => ?_)
              refine JL_q (wants_none rfl) rfl (ex_move rfl) ?_
              refine JL_st (wants_none rfl) rfl (st_buildSlice (vs := [.int .i64 3, .int .i64 y93, .int .i64 r185, .int .i64 y101]) ([3, y93, r185, y101] : List Int) Try.underlying35 ti_2 zi_2 rfl rfl rfl (fun w hh => ⟨(Rd.mk_int _ _ _), (Rd.mk_int _ _ _), (Rd.mk_int _ _ _), (Rd.mk_int _ _ _), trivial⟩)) (fun b187 => ?_)
              refine JL_bnd fun r188 hr189 => ?_
              refine JL_call (wants_none rfl) rfl Try.call110 rfl (Ca_self (fun _ => rfl) fun w hh => c_spec_l13Go _ w (fun _ hk => hk.elim) _ _ _ _ (hh.ow0 0 rfl) _ hr189) (fun x190 => ?_)
              refine JL_ctx (fun w hh => hh.tokf 1 rfl rfl) ?_
              refine JL_ctx (fun w hh => hh.sub_rd 2 rfl (hh.pr 1 rfl)) ?_
              refine JL_ctx (fun w hh => hh.sub_tkn 1 rfl (hh.pr 2 rfl)) ?_
              refine JL_sk (wants_none rfl) (sk_store_bx' 5 ti_129 rfl rfl (fun w hh => (cv_aggs ⟨cv_bool, cv_int, cv_int, (hh.cv 0 rfl), trivial⟩)) rfl rfl rfl rfl) ?_
              refine JL_nil ?_
              refine N_then ?_
              refine J_ret ?_
              exact N_ret1 rfl (rv_cell 5 rfl rfl ti_129 rfl) (fun w hh => ⟨(x190, (((.slice (some ⟨b187, 0, none⟩) 4 4) : Value).ownBlock.toList ++ [])), rfl, hh.sel [1] rfl⟩)

set_option maxHeartbeats 40000000 in
theorem c_spec_l13Bits (A : Nat → Prop) (w : World) (hA : ∀ k, A k → k < w.heap.size) (p0 : Int) (r : Int) (hr : F_spec_l13Bits p0 = some r) :
    Con Try.prog 53 [.int .i64 p0] A w (fun x_ : Unit => .int .i64 r) (fun x_ => []) := by
  refine Con_of (v := fun (r : Int) (x_ : Unit) => .int .i64 r) (fs := fun r x_ => []) Try.func53 rfl Try.ntmps53 rfl (SH.start hA) rfl ?_ hr
  unfold F_spec_l13Bits
  refine J_seq ?_
  refine J_region ?_
  refine JL_q (wants_none rfl) rfl (ex_assign rfl) ?_
  refine JL_nil ?_
  refine N_then ?_
  refine J_seq ?_
  refine J_region ?_
  refine JL_q (wants_none rfl) rfl (ex_assign rfl) ?_
  refine JL_nil ?_
  refine N_then ?_
  refine J_seq ?_
  refine J_loop' (S := Int) (G := Unit) (F_spec_l13Bits_L1 p0) (fun s1 _ => [(0, .int .i64 p0), (3, .int .i64 s1)]) (fun s1 _ => []) 1 () ⟨rfl, rfl, trivial⟩ [] rfl rfl (fun s1 g2 => ?_) (fun s1 g2 => ?_)
  · unfold F_spec_l13Bits_L1
    refine J_seq ?_
    refine J_seq ?_
    refine J_region ?_
    refine JL_q (wants_none rfl) rfl (ex_move rfl) ?_
    refine JL_bnd fun u3 hu4 => ?_
    refine JL_q (wants_none rfl) rfl (ex_shl rfl rfl (nneg_le hu4)) ?_
    refine JL_q (wants_none rfl) rfl (ex_move rfl) ?_
    refine JL_q (wants_none rfl) rfl (ex_lss rfl rfl) ?_
    refine JL_nil ?_
    refine N_then ?_
    refine J_if rfl (fun h5 => ?_) (fun h5 => ?_)
    · refine J_skip ?_
      refine N_then ?_
      refine J_block ?_
      refine J_region ?_
      refine JL_q (wants_none rfl) rfl (ex_move rfl) ?_
      refine JL_q (wants_none rfl) rfl (ex_add rfl rfl) ?_
      refine JL_q (wants_none rfl) rfl (ex_assign rfl) ?_
      refine JL_nil ?_
      refine N_block ?_
      exact N_next' () ⟨rfl, rfl, trivial⟩ [] rfl rfl
    · refine J_exit ?_
      refine N_then_exit ?_
      exact N_break' () ⟨rfl, rfl, trivial⟩ [] rfl rfl
  · refine N_then ?_
    refine J_seq ?_
    refine J_region ?_
    refine JL_q (wants_none rfl) rfl (ex_move rfl) ?_
    refine JL_q (wants_none rfl) rfl (ex_assign rfl) ?_
    refine JL_nil ?_
    refine N_then ?_
    refine J_ret ?_
    exact N_ret1 rfl (rv_tmp rfl) (fun w hh => ⟨(), rfl, hh.sel [] rfl⟩)

set_option maxHeartbeats 40000000 in
theorem c_spec_l13Bit (A : Nat → Prop) (w : World) (hA : ∀ k, A k → k < w.heap.size) (p0 : Int) (p1 : Int) (p2 : Int) (r : Int) (hr : F_spec_l13Bit p0 p1 p2 = some r) :
    Con Try.prog 85 [.int .i64 p0, .int .i64 p1, .int .i64 p2] A w (fun x_ : Unit => .int .i64 r) (fun x_ => []) := by
  refine Con_of (v := fun (r : Int) (x_ : Unit) => .int .i64 r) (fs := fun r x_ => []) Try.func85 rfl Try.ntmps85 rfl (SH.start hA) rfl ?_ hr
  unfold F_spec_l13Bit
  refine J_seq ?_
  refine J_region ?_
  refine JL_q (wants_none rfl) rfl (ex_assign rfl) ?_
  refine JL_nil ?_
  refine N_then ?_
  refine J_seq ?_
  refine J_region ?_
  refine JL_q (wants_none rfl) rfl (ex_move rfl) ?_
  refine JL_q (wants_none rfl) rfl (ex_move rfl) ?_
  refine JL_q (wants_none rfl) rfl (ex_sub rfl rfl) ?_
  refine JL_q (wants_none rfl) rfl (ex_move rfl) ?_
  refine JL_q (wants_none rfl) rfl (ex_sub rfl rfl) ?_
  refine JL_bnd fun u1 hu2 => ?_
  refine JL_q (wants_none rfl) rfl (ex_shr rfl rfl (nneg_le hu2)) ?_
  refine JL_q (wants_none rfl) rfl (ex_and rfl rfl) ?_
  refine JL_q (wants_none rfl) rfl (ex_assign rfl) ?_
  refine JL_nil ?_
  refine N_then ?_
  refine J_ret ?_
  exact N_ret1 rfl (rv_tmp rfl) (fun w hh => ⟨(), rfl, hh.sel [] rfl⟩)

set_option maxHeartbeats 40000000 in
theorem c_spec_l13Binary (A : Nat → Prop) (w : World) (hA : ∀ k, A k → k < w.heap.size) (v0_ : Value) (p0 : GMachine) (hp0 : RdA A w.heap.size w v0_ p0) (v1_ : Value) (p1 : (List Int)) (hp1 : Rd A w v1_ p1) (p2 : Int) (r : Gl13Move) (hr : F_spec_l13Binary p0 p1 p2 = some r) :
    Con Try.prog 108 [v0_, v1_, .int .i64 p2] A w (fun x_ : Value × List Nat => .agg #[.bool r.ok, .int .i64 r.write, .int .i64 r.move, x_.1]) (fun x_ => [.tkn x_.1 r.next x_.2]) := by
  refine Con_of (v := fun (r : Gl13Move) (x_ : Value × List Nat) => .agg #[.bool r.ok, .int .i64 r.write, .int .i64 r.move, x_.1]) (fs := fun r x_ => [.tkn x_.1 r.next x_.2]) Try.func108 rfl Try.ntmps108 rfl (((SH.start hA).start_pa' rfl hp0).start_rd rfl hp1) rfl ?_ hr
  unfold F_spec_l13Binary
  refine J_seq ?_
  refine J_region ?_
  refine JL_st (wants_none rfl) rfl (st_alloc zi_129 rfl) (fun b1 => ?_)
  refine JL_nil ?_
  refine N_then ?_
  refine J_seq ?_
  refine J_region ?_
  refine JL_q (wants_none rfl) rfl (ex_move rfl) ?_
  refine JL_q (wants_none rfl) rfl (ex_nilCheck_pa 2 rfl rfl) ?_
  refine JL_st (wants_none rfl) rfl (st_field_pa 2 (GMachine.at_Symbols _) fi_28_0 rfl rfl rfl) (fun q2 => ?_)
  refine JL_st (wants_none rfl) rfl (st_load_pa_o 0 (opens_int _) ti_2 rfl rfl) (fun _ => ?_)
  refine JL_bnd fun r4 hr5 => ?_
  refine JL_call (wants_none rfl) rfl Try.call53 rfl (Ca_of0 fun w hh => c_spec_l13Bits _ w (fun _ hk => hk.elim) _ _ hr5) (fun _ => ?_)
  refine JL_q (wants_none rfl) rfl (ex_assign rfl) ?_
  refine JL_nil ?_
  refine N_then ?_
  refine J_seq ?_
  refine J_seq ?_
  refine J_region ?_
  refine JL_q (wants_none rfl) rfl (ex_move rfl) ?_
  refine JL_bnd fun y6 hy7 => ?_
  refine JL_st (wants_none rfl) rfl (st_index 2 Try.underlying35 ti_2 rfl rfl rfl hy7) (fun q8 => ?_)
  refine JL_st (wants_none rfl) rfl (st_load_pt_o 0 (opens_int _) ti_2 rfl rfl) (fun _ => ?_)
  refine JL_q (wants_none rfl) rfl (ex_eql rfl rfl) ?_
  refine JL_nil ?_
  refine N_then ?_
  refine J_if rfl (fun h10 => ?_) (fun h10 => ?_)
  · refine J_seq ?_
    refine J_region ?_
    refine JL_q (wants_none rfl) rfl (ex_move rfl) ?_
    refine JL_bnd fun y11 hy12 => ?_
    refine JL_st (wants_none rfl) rfl (st_index 3 Try.underlying35 ti_2 rfl rfl rfl hy12) (fun q13 => ?_)
    refine JL_st (wants_none rfl) rfl (st_load_pt_o 0 (opens_int _) ti_2 rfl rfl) (fun _ => ?_)
    refine JL_q (wants_none rfl) rfl (ex_mul rfl rfl) ?_
    refine JL_q (wants_none rfl) rfl (ex_move rfl) ?_
    refine JL_q (wants_none rfl) rfl (ex_add rfl rfl) ?_
    refine JL_q (wants_none rfl) rfl (ex_assign rfl) ?_
    refine JL_nil ?_
    refine N_then ?_
    refine J_seq ?_
    refine J_seq ?_
    refine J_region ?_
    refine JL_q (wants_none rfl) rfl (ex_move rfl) ?_
    refine JL_bnd fun y15 hy16 => ?_
    refine JL_st (wants_none rfl) rfl (st_index 4 Try.underlying35 ti_2 rfl rfl rfl hy16) (fun q17 => ?_)
    refine JL_st (wants_none rfl) rfl (st_load_pt_o 0 (opens_int _) ti_2 rfl rfl) (fun _ => ?_)
    refine JL_q (wants_none rfl) rfl (ex_move rfl) ?_
    refine JL_q (wants_none rfl) rfl (ex_sub rfl rfl) ?_
    refine JL_q (wants_none rfl) rfl (ex_lss rfl rfl) ?_
    refine JL_nil ?_
    refine N_then ?_
    refine J_if rfl (fun h19 => ?_) (fun h19 => ?_)
    · refine J_seq ?_
      refine J_draw [4] (by kernel_rfl) ?_
      refine JP_take (i := 0) [0, 1, 2, 3, 5, 6] [4] rfl (by kernel_rfl) (by kernel_rfl) (by kernel_rfl) rfl rfl (wants_none rfl) rfl (ex_move rfl) ?_
      refine JP_take (i := 1) [0, 1, 2, 3, 5, 6] [4] rfl (by kernel_rfl) (by kernel_rfl) (by kernel_rfl) rfl rfl (wants_none rfl) rfl (ex_move rfl) ?_
      refine JP_bnd fun y20 hy21 => ?_
      refine JP_sq (i := 2) [4] rfl (by kernel_rfl) (by kernel_rfl) (by kernel_rfl) rfl (wants_none rfl) rfl (sq_index 5 Try.underlying35 ti_2 rfl rfl rfl hy21) (fun q22 => ?_)
      refine JP_sq (i := 3) [5] rfl (by kernel_rfl) (by kernel_rfl) (by kernel_rfl) rfl (wants_none rfl) rfl (sq_load_pt_o 0 (opens_int _) ti_2 rfl rfl) (fun _ => ?_)
      refine JP_take (i := 4) [0, 1, 2, 3, 4, 6, 7] [5] rfl (by kernel_rfl) (by kernel_rfl) (by kernel_rfl) rfl rfl (wants_none rfl) rfl (ex_move rfl) ?_
      refine JP_bnd fun y24 hy25 => ?_
      refine JP_sq (i := 5) [5] rfl (by kernel_rfl) (by kernel_rfl) (by kernel_rfl) rfl (wants_none rfl) rfl (sq_index 6 Try.underlying35 ti_2 rfl rfl rfl hy25) (fun q26 => ?_)
      refine JP_sq (i := 6) [6] rfl (by kernel_rfl) (by kernel_rfl) (by kernel_rfl) rfl (wants_none rfl) rfl (sq_load_pt_o 0 (opens_int _) ti_2 rfl rfl) (fun _ => ?_)
      refine JP_take (i := 7) [0, 1, 2, 3, 4, 5, 7, 8] [6] rfl (by kernel_rfl) (by kernel_rfl) (by kernel_rfl) rfl rfl (wants_none rfl) rfl (ex_add rfl rfl) ?_
      refine JP_take (i := 8) [0, 1, 2, 3, 4, 5, 7, 8] [6] rfl (by kernel_rfl) (by kernel_rfl) (by kernel_rfl) rfl rfl (wants_none rfl) rfl (ex_move rfl) ?_
      refine JP_go [0, 1, 2, 3, 4, 5, 7, 8] [6] rfl rfl rfl (fun w29 h1_30 hp28 => ?_)
      refine JD_one (i := 9) (by kernel_rfl) ?_
      refine JO_st rfl (wants_none rfl) rfl (st_buildSlice (vs := [.int .i64 0, .int .i64 y20, .int .i64 (w64 (y24 + 1)), .int .i64 (w64 ((w64 (2 * y11)) + p2))]) ([0, y20, (w64 (y24 + 1)), (w64 ((w64 (2 * y11)) + p2))] : List Int) Try.underlying35 ti_2 zi_2 rfl rfl rfl (fun w hh => ⟨(Rd.mk_int _ _ _), (Rd.mk_int _ _ _), (Rd.mk_int _ _ _), (Rd.mk_int _ _ _), trivial⟩)) (fun _ hk => nomatch hk) (fun b31 => ?_)
      refine JD_bnd fun r32 hr33 => ?_
      refine JD_one (i := 10) (by kernel_rfl) ?_
      refine JO_call rfl (wants_none rfl) rfl Try.call110 rfl (Ca_self (fun _ => rfl) fun w hh => c_spec_l13Go _ w (fun _ hk => hk.elim) _ _ _ _ (hh.ow0 0 rfl) _ hr33) (fun x34 => ?_)
      refine JD_ctx (fun w hh => hh.tokf 1 rfl rfl) (tokf_owns (i := 1) rfl) ?_
      refine JD_ctx (fun w hh => hh.sub_rd 2 rfl (hh.pr 1 rfl)) (fun _ hb => hb) ?_
      refine JD_ctx (fun w hh => hh.sub_tkn 1 rfl (hh.pr 2 rfl)) (tkn_owns (i := 1) rfl) ?_
      refine JD_one (i := 11) (by kernel_rfl) ?_
      refine JO_sk rfl (wants_none rfl) (sk_store_bx' 10 ti_129 rfl rfl (fun w hh => (cv_aggs ⟨cv_bool, cv_int, cv_int, (hh.cv 0 rfl), trivial⟩)) rfl rfl rfl rfl) (sub_bx 0 rfl) ?_
      refine JD_done (by kernel_rfl) ?_
      refine N_then ?_
      refine J_ret ?_
      refine N_then_ret ?_
      refine N_then_ret ?_
      exact N_ret1 rfl (rv_cell 10 rfl rfl ti_129 rfl) (fun w hh => ⟨(x34, (((.slice (some ⟨b31, 0, none⟩) 4 4) : Value).ownBlock.toList ++ [])), rfl, hh.sel [1] rfl⟩)
    · refine J_skip ?_
      refine N_then ?_
      refine J_seq ?_
      refine J_cut' (S' := Unit) (G' := Unit) (fun _ _ => [(0, v0_), (1, v1_), (6, .pointer (some ⟨b1, 0, none⟩)), (7, .int .i64 r4), (8, .int .i64 (w64 ((w64 (2 * y11)) + p2)))]) (fun _ _ => [.pa v0_ p0, .rd v1_ p1, .bx b1 129 [.bool false, .int .i64 0, .int .i64 0, .slice none 0 0]]) ?_ (fun s35 g36 => ?_)
      · refine J_seq ?_
        refine J_draw [] (by kernel_rfl) ?_
        refine JP_take (i := 0) [0, 1, 2, 3, 4, 5, 6] [] rfl (by kernel_rfl) (by kernel_rfl) (by kernel_rfl) rfl rfl (wants_none rfl) rfl (ex_move rfl) ?_
        refine JP_take (i := 1) [0, 1, 2, 3, 4, 5, 6] [] rfl (by kernel_rfl) (by kernel_rfl) (by kernel_rfl) rfl rfl (wants_none rfl) rfl (ex_move rfl) ?_
        refine JP_take (i := 2) [0, 1, 2, 3, 4, 5, 6] [] rfl (by kernel_rfl) (by kernel_rfl) (by kernel_rfl) rfl rfl (wants_none rfl) rfl (ex_nilCheck_pa 6 rfl rfl) ?_
        refine JP_sq (i := 3) [] rfl (by kernel_rfl) (by kernel_rfl) (by kernel_rfl) rfl (wants_none rfl) rfl (sq_field_pa 6 (GMachine.at_Symbols _) fi_28_0 rfl rfl rfl) (fun q37 => ?_)
        refine JP_sq (i := 4) [] rfl (by kernel_rfl) (by kernel_rfl) (by kernel_rfl) rfl (wants_none rfl) rfl (sq_load_pa_o 0 (opens_int _) ti_2 rfl rfl) (fun _ => ?_)
        refine JP_take (i := 5) [0, 1, 2, 3, 4, 5, 6, 7] [] rfl (by kernel_rfl) (by kernel_rfl) (by kernel_rfl) rfl rfl (wants_none rfl) rfl (ex_geq rfl rfl) ?_
        refine JP_take (i := 6) [0, 1, 2, 3, 4, 5, 6, 7] [] rfl (by kernel_rfl) (by kernel_rfl) (by kernel_rfl) rfl rfl (wants_none rfl) rfl (ex_move rfl) ?_
        refine JP_cond (fun h39 => ?_) (fun h39 => ?_)
        · refine JP_pass (i := 7) rfl (by kernel_rfl) (by kernel_rfl) (by kernel_rfl) rfl rfl h39 rfl ?_
          refine JP_pass (i := 8) rfl (by kernel_rfl) (by kernel_rfl) (by kernel_rfl) rfl rfl h39 rfl ?_
          refine JP_pass (i := 9) rfl (by kernel_rfl) (by kernel_rfl) (by kernel_rfl) rfl rfl h39 rfl ?_
          refine JP_pass (i := 10) rfl (by kernel_rfl) (by kernel_rfl) (by kernel_rfl) rfl rfl h39 rfl ?_
          refine JP_pass (i := 11) rfl (by kernel_rfl) (by kernel_rfl) (by kernel_rfl) rfl rfl h39 rfl ?_
          refine JP_pass (i := 12) rfl (by kernel_rfl) (by kernel_rfl) (by kernel_rfl) rfl rfl h39 rfl ?_
          refine JP_pass (i := 13) rfl (by kernel_rfl) (by kernel_rfl) (by kernel_rfl) rfl rfl h39 rfl ?_
          refine JP_pass (i := 14) rfl (by kernel_rfl) (by kernel_rfl) (by kernel_rfl) rfl rfl h39 rfl ?_
          refine JP_pass (i := 15) rfl (by kernel_rfl) (by kernel_rfl) (by kernel_rfl) rfl rfl h39 rfl ?_
          refine JP_pass (i := 16) rfl (by kernel_rfl) (by kernel_rfl) (by kernel_rfl) rfl rfl h39 rfl ?_
          refine JP_pass (i := 17) rfl (by kernel_rfl) (by kernel_rfl) (by kernel_rfl) rfl rfl h39 rfl ?_
          refine JP_pass (i := 18) rfl (by kernel_rfl) (by kernel_rfl) (by kernel_rfl) rfl rfl h39 rfl ?_
          refine JP_pass (i := 19) rfl (by kernel_rfl) (by kernel_rfl) (by kernel_rfl) rfl rfl h39 rfl ?_
          refine JP_pass (i := 20) rfl (by kernel_rfl) (by kernel_rfl) (by kernel_rfl) rfl rfl h39 rfl ?_
          refine JP_pass (i := 21) rfl (by kernel_rfl) (by kernel_rfl) (by kernel_rfl) rfl rfl h39 rfl ?_
          refine JP_pass (i := 22) rfl (by kernel_rfl) (by kernel_rfl) (by kernel_rfl) rfl rfl h39 rfl ?_
          refine JP_pass (i := 23) rfl (by kernel_rfl) (by kernel_rfl) (by kernel_rfl) rfl rfl h39 rfl ?_
          refine JP_pass (i := 24) rfl (by kernel_rfl) (by kernel_rfl) (by kernel_rfl) rfl rfl h39 rfl ?_
          refine JP_take (i := 25) [0, 1, 2, 3, 4, 5, 6, 7] [] rfl (by kernel_rfl) (by kernel_rfl) (by kernel_rfl) rfl rfl (wants_none rfl) rfl (ex_pick_true rfl h39 rfl) ?_
          refine JP_go [] [] rfl rfl rfl (fun _ _ _ => ?_)
          refine JD_done (by kernel_rfl) ?_
          refine N_then ?_
          refine J_if_true rfl rfl ?_
          refine J_seq ?_
          refine J_region ?_
          refine JL_q (wants_none rfl) rfl (ex_build si_129 rfl .nil (fun w hh => trivial)) ?_
          refine JL_sk (wants_none rfl) (sk_store_bx' 5 ti_129 rfl rfl (fun w hh => (cv_aggs ⟨cv_bool, cv_int, cv_int, cv_slice, trivial⟩)) rfl rfl rfl rfl) ?_
          refine JL_nil ?_
          refine N_then ?_
          refine J_ret ?_
          refine N_mid_ret ?_
          refine N_then_ret ?_
          refine N_then_ret ?_
          refine N_ctx (fun w hh => SH.ow_nil (α := Int) 2 hh) ?_
          refine N_ctx (fun w hh => hh.tokf 0 rfl rfl) ?_
          exact N_ret1 rfl (rv_cell 7 rfl rfl ti_129 rfl) (fun w hh => ⟨((.slice none 0 0 : Value), ((.slice none 0 0 : Value).ownBlock.toList ++ [])), rfl, hh.sel [0] rfl⟩)
        · refine JP_take (i := 7) [0, 1, 2, 3, 4, 5, 6, 7] [] rfl (by kernel_rfl) (by kernel_rfl) (by kernel_rfl) rfl rfl (wants_some rfl rfl rfl h39) rfl (ex_move rfl) ?_
          refine JP_take (i := 8) [0, 1, 2, 3, 4, 5, 6, 7] [] rfl (by kernel_rfl) (by kernel_rfl) (by kernel_rfl) rfl rfl (wants_some rfl rfl rfl h39) rfl (ex_nilCheck_pa 7 rfl rfl) ?_
          refine JP_sq (i := 9) [] rfl (by kernel_rfl) (by kernel_rfl) (by kernel_rfl) rfl (wants_some rfl rfl rfl h39) rfl (sq_field_pa 7 (GMachine.at_Rules _) fi_28_2 rfl rfl rfl) (fun q40 => ?_)
          refine JP_sq (i := 10) [] rfl (by kernel_rfl) (by kernel_rfl) (by kernel_rfl) rfl (wants_some rfl rfl rfl h39) rfl (sq_load_pa_o 0 (opens_sl _) ti_26 rfl rfl) (fun v41 => ?_)
          refine JP_take (i := 11) [0, 1, 2, 3, 4, 5, 6, 7, 8, 9] [] rfl (by kernel_rfl) (by kernel_rfl) (by kernel_rfl) rfl rfl (wants_some rfl rfl rfl h39) rfl (ex_move rfl) ?_
          refine JP_bnd fun y42 hy43 => ?_
          refine JP_sq (i := 12) [] rfl (by kernel_rfl) (by kernel_rfl) (by kernel_rfl) rfl (wants_some rfl rfl rfl h39) rfl (sq_index 8 Try.underlying35 ti_2 rfl rfl rfl hy43) (fun q44 => ?_)
          refine JP_sq (i := 13) [] rfl (by kernel_rfl) (by kernel_rfl) (by kernel_rfl) rfl (wants_some rfl rfl rfl h39) rfl (sq_load_pt_o 0 (opens_int _) ti_2 rfl rfl) (fun _ => ?_)
          refine JP_take (i := 14) [0, 1, 2, 3, 4, 5, 6, 7, 8, 9, 10] [] rfl (by kernel_rfl) (by kernel_rfl) (by kernel_rfl) rfl rfl (wants_some rfl rfl rfl h39) rfl (ex_move rfl) ?_
          refine JP_take (i := 15) [0, 1, 2, 3, 4, 5, 6, 7, 8, 9, 10] [] rfl (by kernel_rfl) (by kernel_rfl) (by kernel_rfl) rfl rfl (wants_some rfl rfl rfl h39) rfl (ex_nilCheck_pa 10 rfl rfl) ?_
          refine JP_sq (i := 16) [] rfl (by kernel_rfl) (by kernel_rfl) (by kernel_rfl) rfl (wants_some rfl rfl rfl h39) rfl (sq_field_pa 10 (GMachine.at_Symbols _) fi_28_0 rfl rfl rfl) (fun q46 => ?_)
          refine JP_sq (i := 17) [] rfl (by kernel_rfl) (by kernel_rfl) (by kernel_rfl) rfl (wants_some rfl rfl rfl h39) rfl (sq_load_pa_o 0 (opens_int _) ti_2 rfl rfl) (fun _ => ?_)
          refine JP_take (i := 18) [0, 1, 2, 3, 4, 5, 6, 7, 8, 9, 10, 11] [] rfl (by kernel_rfl) (by kernel_rfl) (by kernel_rfl) rfl rfl (wants_some rfl rfl rfl h39) rfl (ex_mul rfl rfl) ?_
          refine JP_take (i := 19) [0, 1, 2, 3, 4, 5, 6, 7, 8, 9, 10, 11] [] rfl (by kernel_rfl) (by kernel_rfl) (by kernel_rfl) rfl rfl (wants_some rfl rfl rfl h39) rfl (ex_move rfl) ?_
          refine JP_take (i := 20) [0, 1, 2, 3, 4, 5, 6, 7, 8, 9, 10, 11] [] rfl (by kernel_rfl) (by kernel_rfl) (by kernel_rfl) rfl rfl (wants_some rfl rfl rfl h39) rfl (ex_add rfl rfl) ?_
          refine JP_bnd fun y48 hy49 => ?_
          refine JP_sq (i := 21) [] rfl (by kernel_rfl) (by kernel_rfl) (by kernel_rfl) rfl (wants_some rfl rfl rfl h39) rfl (sq_index 2 Try.underlying26 ti_97 rfl rfl rfl hy49) (fun q50 => ?_)
          refine JP_sq (i := 22) [] rfl (by kernel_rfl) (by kernel_rfl) (by kernel_rfl) rfl (wants_some rfl rfl rfl h39) rfl (sq_load_pt_o 0 (GRule.opens _) ti_97 rfl rfl) (fun _ => ?_)
          refine JP_go [0, 1, 2, 3, 4, 5, 6, 7, 8, 9, 10, 11, 12] [] rfl rfl rfl (fun w53 h1_54 hp52 => ?_)
          refine JD_bnd fun r55 hr56 => ?_
          refine JD_one (i := 23) (by kernel_rfl) ?_
          refine JO_call rfl (wants_some rfl rfl rfl h39) rfl Try.call92 rfl (Ca_of0 fun w hh => c_spec_l05None _ w (fun _ hk => hk.elim)  _ hr56) (fun _ => ?_)
          refine JD_take (i := 24) hp52 rfl (by kernel_rfl) (by kernel_rfl) (by kernel_rfl) (wants_some rfl rfl rfl h39) rfl (ex_eql_seq_97 rfl rfl) ?_
          refine JD_take (i := 25) hp52 rfl (by kernel_rfl) (by kernel_rfl) (by kernel_rfl) (wants_none rfl) rfl (ex_pick_false rfl h39 rfl) ?_
          refine JD_done (by kernel_rfl) ?_
          refine N_then ?_
          refine J_if rfl (fun h57 => ?_) (fun h57 => ?_)
          · refine J_seq ?_
            refine J_region ?_
            refine JL_q (wants_none rfl) rfl (ex_build si_129 rfl .nil (fun w hh => trivial)) ?_
            refine JL_sk (wants_none rfl) (sk_store_bx' 10 ti_129 rfl rfl (fun w hh => (cv_aggs ⟨cv_bool, cv_int, cv_int, cv_slice, trivial⟩)) rfl rfl rfl rfl) ?_
            refine JL_nil ?_
            refine N_then ?_
            refine J_ret ?_
            refine N_mid_ret ?_
            refine N_then_ret ?_
            refine N_then_ret ?_
            refine N_ctx (fun w hh => SH.ow_nil (α := Int) 2 hh) ?_
            refine N_ctx (fun w hh => hh.tokf 0 rfl rfl) ?_
            exact N_ret1 rfl (rv_cell 12 rfl rfl ti_129 rfl) (fun w hh => ⟨((.slice none 0 0 : Value), ((.slice none 0 0 : Value).ownBlock.toList ++ [])), rfl, hh.sel [0] rfl⟩)
          · refine J_skip ?_
            exact N_meet' () ⟨rfl, rfl, rfl, rfl, rfl, trivial⟩ [12, 11, 10] rfl rfl
      · refine N_then ?_
        refine J_seq ?_
        refine J_draw [] (by kernel_rfl) ?_
        refine JP_take (i := 0) [0, 1, 2] [] rfl (by kernel_rfl) (by kernel_rfl) (by kernel_rfl) rfl rfl (wants_none rfl) rfl (ex_move rfl) ?_
        refine JP_bnd fun y58 hy59 => ?_
        refine JP_sq (i := 1) [] rfl (by kernel_rfl) (by kernel_rfl) (by kernel_rfl) rfl (wants_none rfl) rfl (sq_index 1 Try.underlying35 ti_2 rfl rfl rfl hy59) (fun q60 => ?_)
        refine JP_sq (i := 2) [] rfl (by kernel_rfl) (by kernel_rfl) (by kernel_rfl) rfl (wants_none rfl) rfl (sq_load_pt_o 0 (opens_int _) ti_2 rfl rfl) (fun _ => ?_)
        refine JP_take (i := 3) [0, 1, 2, 3] [] rfl (by kernel_rfl) (by kernel_rfl) (by kernel_rfl) rfl rfl (wants_none rfl) rfl (ex_move rfl) ?_
        refine JP_take (i := 4) [0, 1, 2, 3] [] rfl (by kernel_rfl) (by kernel_rfl) (by kernel_rfl) rfl rfl (wants_none rfl) rfl (ex_nilCheck_pa 1 rfl rfl) ?_
        refine JP_sq (i := 5) [] rfl (by kernel_rfl) (by kernel_rfl) (by kernel_rfl) rfl (wants_none rfl) rfl (sq_field_pa 1 (GMachine.at_Symbols _) fi_28_0 rfl rfl rfl) (fun q62 => ?_)
        refine JP_sq (i := 6) [] rfl (by kernel_rfl) (by kernel_rfl) (by kernel_rfl) rfl (wants_none rfl) rfl (sq_load_pa_o 0 (opens_int _) ti_2 rfl rfl) (fun _ => ?_)
        refine JP_take (i := 7) [0, 1, 2, 3, 4] [] rfl (by kernel_rfl) (by kernel_rfl) (by kernel_rfl) rfl rfl (wants_none rfl) rfl (ex_mul rfl rfl) ?_
        refine JP_take (i := 8) [0, 1, 2, 3, 4] [] rfl (by kernel_rfl) (by kernel_rfl) (by kernel_rfl) rfl rfl (wants_none rfl) rfl (ex_move rfl) ?_
        refine JP_take (i := 9) [0, 1, 2, 3, 4] [] rfl (by kernel_rfl) (by kernel_rfl) (by kernel_rfl) rfl rfl (wants_none rfl) rfl (ex_add rfl rfl) ?_
        refine JP_take (i := 10) [0, 1, 2, 3, 4] [] rfl (by kernel_rfl) (by kernel_rfl) (by kernel_rfl) rfl rfl (wants_none rfl) rfl (ex_assign rfl) ?_
        refine JP_go [] [] rfl rfl rfl (fun _ _ _ => ?_)
        refine JD_done (by kernel_rfl) ?_
        refine N_then ?_
        refine J_seq ?_
        refine J_region ?_
        refine JL_q (wants_none rfl) rfl (ex_move rfl) ?_
        refine JL_q (wants_none rfl) rfl (ex_nilCheck_pa 2 rfl rfl) ?_
        refine JL_st (wants_none rfl) rfl (st_field_pa 2 (GMachine.at_Rules _) fi_28_2 rfl rfl rfl) (fun q64 => ?_)
        refine JL_st (wants_none rfl) rfl (st_load_pa_o 0 (opens_sl _) ti_26 rfl rfl) (fun v65 => ?_)
        refine JL_q (wants_none rfl) rfl (ex_move rfl) ?_
        refine JL_bnd fun y66 hy67 => ?_
        refine JL_st (wants_none rfl) rfl (st_index 0 Try.underlying26 ti_97 rfl rfl rfl hy67) (fun q68 => ?_)
        refine JL_st (wants_none rfl) rfl (st_load_pt_o 0 (GRule.opens _) ti_97 rfl rfl) (fun _ => ?_)
        refine JL_st (wants_none rfl) rfl (st_alloc zi_97 rfl) (fun b70 => ?_)
        refine JL_sk (wants_none rfl) (sk_store_bx' 0 ti_97 rfl rfl (fun w hh => (cv_aggs ⟨cv_int, cv_int, cv_int, trivial⟩)) rfl rfl rfl rfl) ?_
        refine JL_nil ?_
        refine N_then ?_
        refine J_seq ?_
        refine J_seq ?_
        refine J_region ?_
        refine JL_q (wants_none rfl) rfl (ex_move rfl) ?_
        refine JL_q (wants_none rfl) rfl (ex_eql rfl rfl) ?_
        refine JL_nil ?_
        refine N_then ?_
        refine J_if rfl (fun h71 => ?_) (fun h71 => ?_)
        · refine J_seq ?_
          refine J_region ?_
          refine JL_q (wants_none rfl) rfl (ex_fieldAddr fi_97_0 rfl rfl) ?_
          refine JL_q (wants_none rfl) rfl (ex_load_bx 0 ti_2 rfl rfl rfl) ?_
          refine JL_q (wants_none rfl) rfl (ex_fieldAddr fi_97_1 rfl rfl) ?_
          refine JL_q (wants_none rfl) rfl (ex_load_bx 0 ti_2 rfl rfl rfl) ?_
          refine JL_q (wants_none rfl) rfl (ex_fieldAddr fi_97_2 rfl rfl) ?_
          refine JL_q (wants_none rfl) rfl (ex_load_bx 0 ti_2 rfl rfl rfl) ?_
          refine JL_st (wants_none rfl) rfl (st_buildSlice (vs := [.int .i64 0, .int .i64 y66.Next, .int .i64 0, .int .i64 0]) ([0, y66.Next, 0, 0] : List Int) Try.underlying35 ti_2 zi_2 rfl rfl rfl (fun w hh => ⟨(Rd.mk_int _ _ _), (Rd.mk_int _ _ _), (Rd.mk_int _ _ _), (Rd.mk_int _ _ _), trivial⟩)) (fun b72 => ?_)
          refine JL_bnd fun r73 hr74 => ?_
          refine JL_call (wants_none rfl) rfl Try.call110 rfl (Ca_self (fun _ => rfl) fun w hh => c_spec_l13Go _ w (fun _ hk => hk.elim) _ _ _ _ (hh.ow0 0 rfl) _ hr74) (fun x75 => ?_)
          refine JL_ctx (fun w hh => hh.tokf 1 rfl rfl) ?_
          refine JL_ctx (fun w hh => hh.sub_rd 2 rfl (hh.pr 1 rfl)) ?_
          refine JL_ctx (fun w hh => hh.sub_tkn 1 rfl (hh.pr 2 rfl)) ?_
          refine JL_sk (wants_none rfl) (sk_store_bx' 12 ti_129 rfl rfl (fun w hh => (cv_aggs ⟨cv_bool, cv_int, cv_int, (hh.cv 0 rfl), trivial⟩)) rfl rfl rfl rfl) ?_
          refine JL_nil ?_
          refine N_then ?_
          refine J_ret ?_
          refine N_then_ret ?_
          refine N_then_ret ?_
          exact N_ret1 rfl (rv_cell 12 rfl rfl ti_129 rfl) (fun w hh => ⟨(x75, (((.slice (some ⟨b72, 0, none⟩) 4 4) : Value).ownBlock.toList ++ [])), rfl, hh.sel [1] rfl⟩)
        · refine J_skip ?_
          refine N_then ?_
          refine J_seq ?_
          refine J_region ?_
          refine JL_q (wants_none rfl) rfl (ex_fieldAddr fi_97_0 rfl rfl) ?_
          refine JL_q (wants_none rfl) rfl (ex_load_bx 0 ti_2 rfl rfl rfl) ?_
          refine JL_q (wants_none rfl) rfl (ex_move rfl) ?_
          refine JL_q (wants_none rfl) rfl (ex_move rfl) ?_
          refine JL_q (wants_none rfl) rfl (ex_sub rfl rfl) ?_
          refine JL_bnd fun r76 hr77 => ?_
          refine JL_call (wants_none rfl) rfl Try.call85 rfl (Ca_of0 fun w hh => c_spec_l13Bit _ w (fun _ hk => hk.elim) _ _ _ _ hr77) (fun _ => ?_)
          refine JL_q (wants_none rfl) rfl (ex_move rfl) ?_
          refine JL_q (wants_none rfl) rfl (ex_move rfl) ?_
          refine JL_q (wants_none rfl) rfl (ex_sub rfl rfl) ?_
          refine JL_st (wants_none rfl) rfl (st_buildSlice (vs := [.int .i64 1, .int .i64 (w64 ((w64 (y58 * p0.Symbols)) + (w64 ((w64 (2 * y11)) + p2)))), .int .i64 (w64 (r4 - 2))]) ([1, (w64 ((w64 (y58 * p0.Symbols)) + (w64 ((w64 (2 * y11)) + p2)))), (w64 (r4 - 2))] : List Int) Try.underlying35 ti_2 zi_2 rfl rfl rfl (fun w hh => ⟨(Rd.mk_int _ _ _), (Rd.mk_int _ _ _), (Rd.mk_int _ _ _), trivial⟩)) (fun b78 => ?_)
          refine JL_bnd fun r79 hr80 => ?_
          refine JL_call (wants_none rfl) rfl Try.call110 rfl (Ca_self (fun _ => rfl) fun w hh => c_spec_l13Go _ w (fun _ hk => hk.elim) _ _ _ _ (hh.ow0 0 rfl) _ hr80) (fun x81 => ?_)
          refine JL_ctx (fun w hh => hh.tokf 1 rfl rfl) ?_
          refine JL_ctx (fun w hh => hh.sub_rd 2 rfl (hh.pr 1 rfl)) ?_
          refine JL_ctx (fun w hh => hh.sub_tkn 1 rfl (hh.pr 2 rfl)) ?_
          refine JL_sk (wants_none rfl) (sk_store_bx' 12 ti_129 rfl rfl (fun w hh => (cv_aggs ⟨cv_bool, cv_int, cv_int, (hh.cv 0 rfl), trivial⟩)) rfl rfl rfl rfl) ?_
          refine JL_nil ?_
          refine N_then ?_
          refine J_ret ?_
          refine N_then_ret ?_
          exact N_ret1 rfl (rv_cell 12 rfl rfl ti_129 rfl) (fun w hh => ⟨(x81, (((.slice (some ⟨b78, 0, none⟩) 3 3) : Value).ownBlock.toList ++ [])), rfl, hh.sel [1] rfl⟩)
  · refine J_skip ?_
    refine N_then ?_
    refine J_seq ?_
    refine J_draw [] (by kernel_rfl) ?_
    refine JP_take (i := 0) [0, 1, 2, 3, 4] [] rfl (by kernel_rfl) (by kernel_rfl) (by kernel_rfl) rfl rfl (wants_none rfl) rfl (ex_move rfl) ?_
    refine JP_take (i := 1) [0, 1, 2, 3, 4] [] rfl (by kernel_rfl) (by kernel_rfl) (by kernel_rfl) rfl rfl (wants_none rfl) rfl (ex_nilCheck_pa 4 rfl rfl) ?_
    refine JP_sq (i := 2) [] rfl (by kernel_rfl) (by kernel_rfl) (by kernel_rfl) rfl (wants_none rfl) rfl (sq_field_pa 4 (GMachine.at_Rules _) fi_28_2 rfl rfl rfl) (fun q82 => ?_)
    refine JP_sq (i := 3) [] rfl (by kernel_rfl) (by kernel_rfl) (by kernel_rfl) rfl (wants_none rfl) rfl (sq_load_pa_o 0 (opens_sl _) ti_26 rfl rfl) (fun v83 => ?_)
    refine JP_take (i := 4) [0, 1, 2, 3, 4, 5, 6] [] rfl (by kernel_rfl) (by kernel_rfl) (by kernel_rfl) rfl rfl (wants_none rfl) rfl (ex_move rfl) ?_
    refine JP_bnd fun y84 hy85 => ?_
    refine JP_sq (i := 5) [] rfl (by kernel_rfl) (by kernel_rfl) (by kernel_rfl) rfl (wants_none rfl) rfl (sq_index 5 Try.underlying35 ti_2 rfl rfl rfl hy85) (fun q86 => ?_)
    refine JP_sq (i := 6) [] rfl (by kernel_rfl) (by kernel_rfl) (by kernel_rfl) rfl (wants_none rfl) rfl (sq_load_pt_o 0 (opens_int _) ti_2 rfl rfl) (fun _ => ?_)
    refine JP_bnd fun y88 hy89 => ?_
    refine JP_sq (i := 7) [] rfl (by kernel_rfl) (by kernel_rfl) (by kernel_rfl) rfl (wants_none rfl) rfl (sq_index 1 Try.underlying26 ti_97 rfl rfl rfl hy89) (fun q90 => ?_)
    refine JP_sq (i := 8) [] rfl (by kernel_rfl) (by kernel_rfl) (by kernel_rfl) rfl (wants_none rfl) rfl (sq_load_pt_o 0 (GRule.opens _) ti_97 rfl rfl) (fun _ => ?_)
    refine JP_go [0, 1, 2, 3, 4, 5, 6, 7, 8] [] rfl rfl rfl (fun w93 h1_94 hp92 => ?_)
    refine JD_one (i := 9) (by kernel_rfl) ?_
    refine JO_st rfl (wants_none rfl) rfl (st_alloc zi_97 rfl) (fun _ hk => nomatch hk) (fun b95 => ?_)
    refine JD_one (i := 10) (by kernel_rfl) ?_
    refine JO_sk2 0 [] [0, 1, 2, 3, 4, 5, 6, 7, 8] [1, 2, 3, 4, 5, 6, 7, 8, 9] rfl rfl rfl rfl rfl rfl (wants_none rfl) (sk_store_bx' 0 ti_97 rfl rfl (fun w hh => (cv_aggs ⟨cv_int, cv_int, cv_int, trivial⟩)) rfl rfl rfl rfl) (fun _ hk => hk) ?_
    refine JD_done (by kernel_rfl) ?_
    refine N_then ?_
    refine J_seq ?_
    refine J_seq ?_
    refine J_region ?_
    refine JL_q (wants_none rfl) rfl (ex_move rfl) ?_
    refine JL_bnd fun y96 hy97 => ?_
    refine JL_st (wants_none rfl) rfl (st_index 8 Try.underlying35 ti_2 rfl rfl rfl hy97) (fun q98 => ?_)
    refine JL_st (wants_none rfl) rfl (st_load_pt_o 0 (opens_int _) ti_2 rfl rfl) (fun _ => ?_)
    refine JL_q (wants_none rfl) rfl (ex_eql rfl rfl) ?_
    refine JL_nil ?_
    refine N_then ?_
    refine J_if rfl (fun h100 => ?_) (fun h100 => ?_)
    · refine J_seq ?_
      refine J_region ?_
      refine JL_q (wants_none rfl) rfl (ex_move rfl) ?_
      refine JL_bnd fun y101 hy102 => ?_
      refine JL_st (wants_none rfl) rfl (st_index 9 Try.underlying35 ti_2 rfl rfl rfl hy102) (fun q103 => ?_)
      refine JL_st (wants_none rfl) rfl (st_load_pt_o 0 (opens_int _) ti_2 rfl rfl) (fun _ => ?_)
      refine JL_q (wants_none rfl) rfl (ex_assign rfl) ?_
      refine JL_nil ?_
      refine N_then ?_
      refine J_seq ?_
      refine J_seq ?_
      refine J_region ?_
      refine JL_q (wants_none rfl) rfl (ex_move rfl) ?_
      refine JL_q (wants_none rfl) rfl (ex_gtr rfl rfl) ?_
      refine JL_nil ?_
      refine N_then ?_
      refine J_if rfl (fun h105 => ?_) (fun h105 => ?_)
      · refine J_seq ?_
        refine J_cut' (S' := Bool × Int × Int × (List Int)) (G' := Value × List Nat) (fun s106 g107 => [(6, .pointer (some ⟨b1, 0, none⟩))]) (fun s106 g107 => [.rd g107.1 s106.2.2.2, .tkn g107.1 s106.2.2.2 g107.2, .bx b1 129 [.bool s106.1, .int .i64 s106.2.1, .int .i64 s106.2.2.1, g107.1]]) ?_ (fun s106 g107 => ?_)
        · refine J_draw [9] (by kernel_rfl) ?_
          refine JP_take (i := 0) [0, 1, 2, 3, 4, 5, 6, 7, 8, 10, 11] [9] rfl (by kernel_rfl) (by kernel_rfl) (by kernel_rfl) rfl rfl (wants_none rfl) rfl (ex_fieldAddr fi_97_0 rfl rfl) ?_
          refine JP_take (i := 1) [0, 1, 2, 3, 4, 5, 6, 7, 8, 10, 11] [9] rfl (by kernel_rfl) (by kernel_rfl) (by kernel_rfl) rfl rfl (wants_none rfl) rfl (ex_load_bx 2 ti_2 rfl rfl rfl) ?_
          refine JP_take (i := 2) [0, 1, 2, 3, 4, 5, 6, 7, 8, 10, 11] [9] rfl (by kernel_rfl) (by kernel_rfl) (by kernel_rfl) rfl rfl (wants_none rfl) rfl (ex_move rfl) ?_
          refine JP_take (i := 3) [0, 1, 2, 3, 4, 5, 6, 7, 8, 10, 11] [9] rfl (by kernel_rfl) (by kernel_rfl) (by kernel_rfl) rfl rfl (wants_none rfl) rfl (ex_move rfl) ?_
          refine JP_take (i := 5) [0, 1, 2, 3, 4, 5, 6, 7, 8, 10, 11] [9] rfl (by kernel_rfl) (by kernel_rfl) (by kernel_rfl) rfl rfl (wants_none rfl) rfl (ex_move rfl) ?_
          refine JP_bnd fun y108 hy109 => ?_
          refine JP_sq (i := 6) [9] rfl (by kernel_rfl) (by kernel_rfl) (by kernel_rfl) rfl (wants_none rfl) rfl (sq_index 10 Try.underlying35 ti_2 rfl rfl rfl hy109) (fun q110 => ?_)
          refine JP_sq (i := 7) [10] rfl (by kernel_rfl) (by kernel_rfl) (by kernel_rfl) rfl (wants_none rfl) rfl (sq_load_pt_o 0 (opens_int _) ti_2 rfl rfl) (fun _ => ?_)
          refine JP_take (i := 8) [0, 1, 2, 3, 4, 5, 6, 7, 8, 9, 11, 12] [10] rfl (by kernel_rfl) (by kernel_rfl) (by kernel_rfl) rfl rfl (wants_none rfl) rfl (ex_move rfl) ?_
          refine JP_take (i := 9) [0, 1, 2, 3, 4, 5, 6, 7, 8, 9, 11, 12] [10] rfl (by kernel_rfl) (by kernel_rfl) (by kernel_rfl) rfl rfl (wants_none rfl) rfl (ex_sub rfl rfl) ?_
          refine JP_go [0, 1, 2, 3, 4, 5, 6, 7, 8, 9, 11, 12] [10] rfl rfl rfl (fun w113 h1_114 hp112 => ?_)
          refine JD_bnd fun r115 hr116 => ?_
          refine JD_two (i := 4) (j := 10) (by kernel_rfl) ?_ ?_
          · refine JO_call rfl (wants_none rfl) rfl Try.call85 rfl (Ca_of0 fun w hh => c_spec_l13Bit _ w (fun _ hk => hk.elim) _ _ _ _ hr116) (fun _ => ?_)
            refine JD_one (i := 10) (by kernel_rfl) ?_
            refine JO_st rfl (wants_none rfl) rfl (st_buildSlice (vs := [.int .i64 1, .int .i64 y108, .int .i64 (w64 (y101 - 1))]) ([1, y108, (w64 (y101 - 1))] : List Int) Try.underlying35 ti_2 zi_2 rfl rfl rfl (fun w hh => ⟨(Rd.mk_int _ _ _), (Rd.mk_int _ _ _), (Rd.mk_int _ _ _), trivial⟩)) (fun _ hk => nomatch hk) (fun b117 => ?_)
            refine JD_bnd fun r118 hr119 => ?_
            refine JD_one (i := 11) (by kernel_rfl) ?_
            refine JO_call rfl (wants_none rfl) rfl Try.call110 rfl (Ca_self (fun _ => rfl) fun w hh => c_spec_l13Go _ w (fun _ hk => hk.elim) _ _ _ _ (hh.ow0 0 rfl) _ hr119) (fun x120 => ?_)
            refine JD_ctx (fun w hh => hh.tokf 1 rfl rfl) (tokf_owns (i := 1) rfl) ?_
            refine JD_ctx (fun w hh => hh.sub_rd 2 rfl (hh.pr 1 rfl)) (fun _ hb => hb) ?_
            refine JD_ctx (fun w hh => hh.sub_tkn 1 rfl (hh.pr 2 rfl)) (tkn_owns (i := 1) rfl) ?_
            refine JD_one (i := 12) (by kernel_rfl) ?_
            refine JO_sk rfl (wants_none rfl) (sk_store_bx' 14 ti_129 rfl rfl (fun w hh => (cv_aggs ⟨cv_bool, cv_int, cv_int, (hh.cv 0 rfl), trivial⟩)) rfl rfl rfl rfl) (sub_bx 0 rfl) ?_
            refine JD_done (by kernel_rfl) ?_
            exact N_meet' (x120, (((.slice (some ⟨b117, 0, none⟩) 3 3) : Value).ownBlock.toList ++ [])) ⟨rfl, trivial⟩ [0, 1, 14] rfl rfl
          · refine JO_st rfl (wants_none rfl) rfl (st_buildSlice (vs := [.int .i64 1, .int .i64 y108, .int .i64 (w64 (y101 - 1))]) ([1, y108, (w64 (y101 - 1))] : List Int) Try.underlying35 ti_2 zi_2 rfl rfl rfl (fun w hh => ⟨(Rd.mk_int _ _ _), (Rd.mk_int _ _ _), (Rd.mk_int _ _ _), trivial⟩)) (fun _ hk => nomatch hk) (fun b121 => ?_)
            refine JD_one (i := 4) (by kernel_rfl) ?_
            refine JO_call rfl (wants_none rfl) rfl Try.call85 rfl (Ca_of0 fun w hh => c_spec_l13Bit _ w (fun _ hk => hk.elim) _ _ _ _ hr116) (fun _ => ?_)
            refine JD_bnd fun r122 hr123 => ?_
            refine JD_one (i := 11) (by kernel_rfl) ?_
            refine JO_call rfl (wants_none rfl) rfl Try.call110 rfl (Ca_self (fun _ => rfl) fun w hh => c_spec_l13Go _ w (fun _ hk => hk.elim) _ _ _ _ (hh.ow0 0 rfl) _ hr123) (fun x124 => ?_)
            refine JD_ctx (fun w hh => hh.tokf 1 rfl rfl) (tokf_owns (i := 1) rfl) ?_
            refine JD_ctx (fun w hh => hh.sub_rd 2 rfl (hh.pr 1 rfl)) (fun _ hb => hb) ?_
            refine JD_ctx (fun w hh => hh.sub_tkn 1 rfl (hh.pr 2 rfl)) (tkn_owns (i := 1) rfl) ?_
            refine JD_one (i := 12) (by kernel_rfl) ?_
            refine JO_sk rfl (wants_none rfl) (sk_store_bx' 14 ti_129 rfl rfl (fun w hh => (cv_aggs ⟨cv_bool, cv_int, cv_int, (hh.cv 0 rfl), trivial⟩)) rfl rfl rfl rfl) (sub_bx 0 rfl) ?_
            refine JD_done (by kernel_rfl) ?_
            exact N_meet' (x124, (((.slice (some ⟨b121, 0, none⟩) 3 3) : Value).ownBlock.toList ++ [])) ⟨rfl, trivial⟩ [0, 1, 14] rfl rfl
        · obtain ⟨g107_0, g107_1⟩ := g107
          refine N_then ?_
          refine J_ret ?_
          refine N_then_ret ?_
          refine N_then_ret ?_
          exact N_ret1 rfl (rv_cell 2 rfl rfl ti_129 rfl) (fun w hh => ⟨(g107_0, g107_1), rfl, hh.sel [1] rfl⟩)
      · refine J_skip ?_
        refine N_then ?_
        refine J_seq ?_
        refine J_cut' (S' := Bool × Int × Int × (List Int)) (G' := Value × List Nat) (fun s125 g126 => [(6, .pointer (some ⟨b1, 0, none⟩))]) (fun s125 g126 => [.rd g126.1 s125.2.2.2, .tkn g126.1 s125.2.2.2 g126.2, .bx b1 129 [.bool s125.1, .int .i64 s125.2.1, .int .i64 s125.2.2.1, g126.1]]) ?_ (fun s125 g126 => ?_)
        · refine J_draw [9] (by kernel_rfl) ?_
          refine JP_take (i := 0) [0, 1, 2, 3, 4, 5, 6, 7, 8, 10, 11] [9] rfl (by kernel_rfl) (by kernel_rfl) (by kernel_rfl) rfl rfl (wants_none rfl) rfl (ex_fieldAddr fi_97_0 rfl rfl) ?_
          refine JP_take (i := 1) [0, 1, 2, 3, 4, 5, 6, 7, 8, 10, 11] [9] rfl (by kernel_rfl) (by kernel_rfl) (by kernel_rfl) rfl rfl (wants_none rfl) rfl (ex_load_bx 2 ti_2 rfl rfl rfl) ?_
          refine JP_take (i := 2) [0, 1, 2, 3, 4, 5, 6, 7, 8, 10, 11] [9] rfl (by kernel_rfl) (by kernel_rfl) (by kernel_rfl) rfl rfl (wants_none rfl) rfl (ex_move rfl) ?_
          refine JP_take (i := 4) [0, 1, 2, 3, 4, 5, 6, 7, 8, 10, 11] [9] rfl (by kernel_rfl) (by kernel_rfl) (by kernel_rfl) rfl rfl (wants_none rfl) rfl (ex_fieldAddr fi_97_1 rfl rfl) ?_
          refine JP_take (i := 5) [0, 1, 2, 3, 4, 5, 6, 7, 8, 10, 11] [9] rfl (by kernel_rfl) (by kernel_rfl) (by kernel_rfl) rfl rfl (wants_none rfl) rfl (ex_load_bx 2 ti_2 rfl rfl rfl) ?_
          refine JP_take (i := 6) [0, 1, 2, 3, 4, 5, 6, 7, 8, 10, 11] [9] rfl (by kernel_rfl) (by kernel_rfl) (by kernel_rfl) rfl rfl (wants_none rfl) rfl (ex_move rfl) ?_
          refine JP_bnd fun y127 hy128 => ?_
          refine JP_sq (i := 7) [9] rfl (by kernel_rfl) (by kernel_rfl) (by kernel_rfl) rfl (wants_none rfl) rfl (sq_index 10 Try.underlying35 ti_2 rfl rfl rfl hy128) (fun q129 => ?_)
          refine JP_sq (i := 8) [10] rfl (by kernel_rfl) (by kernel_rfl) (by kernel_rfl) rfl (wants_none rfl) rfl (sq_load_pt_o 0 (opens_int _) ti_2 rfl rfl) (fun _ => ?_)
          refine JP_take (i := 9) [0, 1, 2, 3, 4, 5, 6, 7, 8, 9, 11, 12] [10] rfl (by kernel_rfl) (by kernel_rfl) (by kernel_rfl) rfl rfl (wants_none rfl) rfl (ex_move rfl) ?_
          refine JP_take (i := 10) [0, 1, 2, 3, 4, 5, 6, 7, 8, 9, 11, 12] [10] rfl (by kernel_rfl) (by kernel_rfl) (by kernel_rfl) rfl rfl (wants_none rfl) rfl (ex_sub rfl rfl) ?_
          refine JP_go [0, 1, 2, 3, 4, 5, 6, 7, 8, 9, 11, 12] [10] rfl rfl rfl (fun w132 h1_133 hp131 => ?_)
          refine JD_bnd fun r134 hr135 => ?_
          refine JD_two (i := 3) (j := 11) (by kernel_rfl) ?_ ?_
          · refine JO_call rfl (wants_none rfl) rfl Try.call85 rfl (Ca_of0 fun w hh => c_spec_l13Bit _ w (fun _ hk => hk.elim) _ _ _ _ hr135) (fun _ => ?_)
            refine JD_one (i := 11) (by kernel_rfl) ?_
            refine JO_st rfl (wants_none rfl) rfl (st_buildSlice (vs := [.int .i64 2, .int .i64 y127, .int .i64 (w64 (r4 - 1))]) ([2, y127, (w64 (r4 - 1))] : List Int) Try.underlying35 ti_2 zi_2 rfl rfl rfl (fun w hh => ⟨(Rd.mk_int _ _ _), (Rd.mk_int _ _ _), (Rd.mk_int _ _ _), trivial⟩)) (fun _ hk => nomatch hk) (fun b136 => ?_)
            refine JD_bnd fun r137 hr138 => ?_
            refine JD_one (i := 12) (by kernel_rfl) ?_
            refine JO_call rfl (wants_none rfl) rfl Try.call110 rfl (Ca_self (fun _ => rfl) fun w hh => c_spec_l13Go _ w (fun _ hk => hk.elim) _ _ _ _ (hh.ow0 0 rfl) _ hr138) (fun x139 => ?_)
            refine JD_ctx (fun w hh => hh.tokf 1 rfl rfl) (tokf_owns (i := 1) rfl) ?_
            refine JD_ctx (fun w hh => hh.sub_rd 2 rfl (hh.pr 1 rfl)) (fun _ hb => hb) ?_
            refine JD_ctx (fun w hh => hh.sub_tkn 1 rfl (hh.pr 2 rfl)) (tkn_owns (i := 1) rfl) ?_
            refine JD_one (i := 13) (by kernel_rfl) ?_
            refine JO_sk rfl (wants_none rfl) (sk_store_bx' 14 ti_129 rfl rfl (fun w hh => (cv_aggs ⟨cv_bool, cv_int, cv_int, (hh.cv 0 rfl), trivial⟩)) rfl rfl rfl rfl) (sub_bx 0 rfl) ?_
            refine JD_done (by kernel_rfl) ?_
            exact N_meet' (x139, (((.slice (some ⟨b136, 0, none⟩) 3 3) : Value).ownBlock.toList ++ [])) ⟨rfl, trivial⟩ [0, 1, 14] rfl rfl
          · refine JO_st rfl (wants_none rfl) rfl (st_buildSlice (vs := [.int .i64 2, .int .i64 y127, .int .i64 (w64 (r4 - 1))]) ([2, y127, (w64 (r4 - 1))] : List Int) Try.underlying35 ti_2 zi_2 rfl rfl rfl (fun w hh => ⟨(Rd.mk_int _ _ _), (Rd.mk_int _ _ _), (Rd.mk_int _ _ _), trivial⟩)) (fun _ hk => nomatch hk) (fun b140 => ?_)
            refine JD_one (i := 3) (by kernel_rfl) ?_
            refine JO_call rfl (wants_none rfl) rfl Try.call85 rfl (Ca_of0 fun w hh => c_spec_l13Bit _ w (fun _ hk => hk.elim) _ _ _ _ hr135) (fun _ => ?_)
            refine JD_bnd fun r141 hr142 => ?_
            refine JD_one (i := 12) (by kernel_rfl) ?_
            refine JO_call rfl (wants_none rfl) rfl Try.call110 rfl (Ca_self (fun _ => rfl) fun w hh => c_spec_l13Go _ w (fun _ hk => hk.elim) _ _ _ _ (hh.ow0 0 rfl) _ hr142) (fun x143 => ?_)
            refine JD_ctx (fun w hh => hh.tokf 1 rfl rfl) (tokf_owns (i := 1) rfl) ?_
            refine JD_ctx (fun w hh => hh.sub_rd 2 rfl (hh.pr 1 rfl)) (fun _ hb => hb) ?_
            refine JD_ctx (fun w hh => hh.sub_tkn 1 rfl (hh.pr 2 rfl)) (tkn_owns (i := 1) rfl) ?_
            refine JD_one (i := 13) (by kernel_rfl) ?_
            refine JO_sk rfl (wants_none rfl) (sk_store_bx' 14 ti_129 rfl rfl (fun w hh => (cv_aggs ⟨cv_bool, cv_int, cv_int, (hh.cv 0 rfl), trivial⟩)) rfl rfl rfl rfl) (sub_bx 0 rfl) ?_
            refine JD_done (by kernel_rfl) ?_
            exact N_meet' (x143, (((.slice (some ⟨b140, 0, none⟩) 3 3) : Value).ownBlock.toList ++ [])) ⟨rfl, trivial⟩ [0, 1, 14] rfl rfl
        · obtain ⟨g126_0, g126_1⟩ := g126
          refine N_then ?_
          refine J_ret ?_
          refine N_then_ret ?_
          exact N_ret1 rfl (rv_cell 2 rfl rfl ti_129 rfl) (fun w hh => ⟨(g126_0, g126_1), rfl, hh.sel [1] rfl⟩)
    · refine J_skip ?_
      refine N_then ?_
      refine J_seq ?_
      refine J_seq ?_
      refine J_region ?_
      refine JL_q (wants_none rfl) rfl (ex_move rfl) ?_
      refine JL_bnd fun y144 hy145 => ?_
      refine JL_st (wants_none rfl) rfl (st_index 9 Try.underlying35 ti_2 rfl rfl rfl hy145) (fun q146 => ?_)
      refine JL_st (wants_none rfl) rfl (st_load_pt_o 0 (opens_int _) ti_2 rfl rfl) (fun _ => ?_)
      refine JL_q (wants_none rfl) rfl (ex_eql rfl rfl) ?_
      refine JL_nil ?_
      refine N_then ?_
      refine J_if rfl (fun h148 => ?_) (fun h148 => ?_)
      · refine J_seq ?_
        refine J_region ?_
        refine JL_q (wants_none rfl) rfl (ex_move rfl) ?_
        refine JL_q (wants_none rfl) rfl (ex_fieldAddr fi_97_1 rfl rfl) ?_
        refine JL_q (wants_none rfl) rfl (ex_load_bx 2 ti_2 rfl rfl rfl) ?_
        refine JL_q (wants_none rfl) rfl (ex_fieldAddr fi_97_2 rfl rfl) ?_
        refine JL_q (wants_none rfl) rfl (ex_load_bx 2 ti_2 rfl rfl rfl) ?_
        refine JL_st (wants_none rfl) rfl (st_buildSlice (vs := [.int .i64 0, .int .i64 y88.Next, .int .i64 0, .int .i64 0]) ([0, y88.Next, 0, 0] : List Int) Try.underlying35 ti_2 zi_2 rfl rfl rfl (fun w hh => ⟨(Rd.mk_int _ _ _), (Rd.mk_int _ _ _), (Rd.mk_int _ _ _), (Rd.mk_int _ _ _), trivial⟩)) (fun b149 => ?_)
        refine JL_bnd fun r150 hr151 => ?_
        refine JL_call (wants_none rfl) rfl Try.call110 rfl (Ca_self (fun _ => rfl) fun w hh => c_spec_l13Go _ w (fun _ hk => hk.elim) _ _ _ _ (hh.ow0 0 rfl) _ hr151) (fun x152 => ?_)
        refine JL_ctx (fun w hh => hh.tokf 1 rfl rfl) ?_
        refine JL_ctx (fun w hh => hh.sub_rd 2 rfl (hh.pr 1 rfl)) ?_
        refine JL_ctx (fun w hh => hh.sub_tkn 1 rfl (hh.pr 2 rfl)) ?_
        refine JL_sk (wants_none rfl) (sk_store_bx' 13 ti_129 rfl rfl (fun w hh => (cv_aggs ⟨cv_bool, cv_int, cv_int, (hh.cv 0 rfl), trivial⟩)) rfl rfl rfl rfl) ?_
        refine JL_nil ?_
        refine N_then ?_
        refine J_ret ?_
        refine N_then_ret ?_
        exact N_ret1 rfl (rv_cell 13 rfl rfl ti_129 rfl) (fun w hh => ⟨(x152, (((.slice (some ⟨b149, 0, none⟩) 4 4) : Value).ownBlock.toList ++ [])), rfl, hh.sel [1] rfl⟩)
      · refine J_skip ?_
        refine N_then ?_
        refine J_seq ?_
        refine J_draw [9] (by kernel_rfl) ?_
        refine JP_take (i := 0) [0, 1, 2, 3, 4, 5, 6, 7, 8, 10, 11] [9] rfl (by kernel_rfl) (by kernel_rfl) (by kernel_rfl) rfl rfl (wants_none rfl) rfl (ex_move rfl) ?_
        refine JP_take (i := 1) [0, 1, 2, 3, 4, 5, 6, 7, 8, 10, 11] [9] rfl (by kernel_rfl) (by kernel_rfl) (by kernel_rfl) rfl rfl (wants_none rfl) rfl (ex_fieldAddr fi_97_1 rfl rfl) ?_
        refine JP_take (i := 2) [0, 1, 2, 3, 4, 5, 6, 7, 8, 10, 11] [9] rfl (by kernel_rfl) (by kernel_rfl) (by kernel_rfl) rfl rfl (wants_none rfl) rfl (ex_load_bx 2 ti_2 rfl rfl rfl) ?_
        refine JP_take (i := 3) [0, 1, 2, 3, 4, 5, 6, 7, 8, 10, 11] [9] rfl (by kernel_rfl) (by kernel_rfl) (by kernel_rfl) rfl rfl (wants_none rfl) rfl (ex_move rfl) ?_
        refine JP_bnd fun y153 hy154 => ?_
        refine JP_sq (i := 4) [9] rfl (by kernel_rfl) (by kernel_rfl) (by kernel_rfl) rfl (wants_none rfl) rfl (sq_index 10 Try.underlying35 ti_2 rfl rfl rfl hy154) (fun q155 => ?_)
        refine JP_sq (i := 5) [10] rfl (by kernel_rfl) (by kernel_rfl) (by kernel_rfl) rfl (wants_none rfl) rfl (sq_load_pt_o 0 (opens_int _) ti_2 rfl rfl) (fun _ => ?_)
        refine JP_take (i := 6) [0, 1, 2, 3, 4, 5, 6, 7, 8, 9, 11, 12] [10] rfl (by kernel_rfl) (by kernel_rfl) (by kernel_rfl) rfl rfl (wants_none rfl) rfl (ex_move rfl) ?_
        refine JP_bnd fun y157 hy158 => ?_
        refine JP_sq (i := 7) [10] rfl (by kernel_rfl) (by kernel_rfl) (by kernel_rfl) rfl (wants_none rfl) rfl (sq_index 11 Try.underlying35 ti_2 rfl rfl rfl hy158) (fun q159 => ?_)
        refine JP_sq (i := 8) [11] rfl (by kernel_rfl) (by kernel_rfl) (by kernel_rfl) rfl (wants_none rfl) rfl (sq_load_pt_o 0 (opens_int _) ti_2 rfl rfl) (fun _ => ?_)
        refine JP_take (i := 9) [0, 1, 2, 3, 4, 5, 6, 7, 8, 9, 10, 12, 13] [11] rfl (by kernel_rfl) (by kernel_rfl) (by kernel_rfl) rfl rfl (wants_none rfl) rfl (ex_sub rfl rfl) ?_
        refine JP_go [0, 1, 2, 3, 4, 5, 6, 7, 8, 9, 10, 12, 13] [11] rfl rfl rfl (fun w162 h1_163 hp161 => ?_)
        refine JD_one (i := 10) (by kernel_rfl) ?_
        refine JO_st rfl (wants_none rfl) rfl (st_buildSlice (vs := [.int .i64 2, .int .i64 y153, .int .i64 (w64 (y157 - 1))]) ([2, y153, (w64 (y157 - 1))] : List Int) Try.underlying35 ti_2 zi_2 rfl rfl rfl (fun w hh => ⟨(Rd.mk_int _ _ _), (Rd.mk_int _ _ _), (Rd.mk_int _ _ _), trivial⟩)) (fun _ hk => nomatch hk) (fun b164 => ?_)
        refine JD_bnd fun r165 hr166 => ?_
        refine JD_one (i := 11) (by kernel_rfl) ?_
        refine JO_call rfl (wants_none rfl) rfl Try.call110 rfl (Ca_self (fun _ => rfl) fun w hh => c_spec_l13Go _ w (fun _ hk => hk.elim) _ _ _ _ (hh.ow0 0 rfl) _ hr166) (fun x167 => ?_)
        refine JD_ctx (fun w hh => hh.tokf 1 rfl rfl) (tokf_owns (i := 1) rfl) ?_
        refine JD_ctx (fun w hh => hh.sub_rd 2 rfl (hh.pr 1 rfl)) (fun _ hb => hb) ?_
        refine JD_ctx (fun w hh => hh.sub_tkn 1 rfl (hh.pr 2 rfl)) (tkn_owns (i := 1) rfl) ?_
        refine JD_one (i := 12) (by kernel_rfl) ?_
        refine JO_sk rfl (wants_none rfl) (sk_store_bx' 15 ti_129 rfl rfl (fun w hh => (cv_aggs ⟨cv_bool, cv_int, cv_int, (hh.cv 0 rfl), trivial⟩)) rfl rfl rfl rfl) (sub_bx 0 rfl) ?_
        refine JD_done (by kernel_rfl) ?_
        refine N_then ?_
        refine J_ret ?_
        exact N_ret1 rfl (rv_cell 15 rfl rfl ti_129 rfl) (fun w hh => ⟨(x167, (((.slice (some ⟨b164, 0, none⟩) 3 3) : Value).ownBlock.toList ++ [])), rfl, hh.sel [1] rfl⟩)

set_option maxHeartbeats 40000000 in
theorem c_impl_within (A : Nat → Prop) (w : World) (hA : ∀ k, A k → k < w.heap.size) (p0 : Int) (p1 : Int) (p2 : Int) (r : Bool) (hr : F_impl_within p0 p1 p2 = some r) :
    Con Try.prog 69 [.int .i64 p0, .int .i64 p1, .int .i64 p2] A w (fun x_ : Unit => .bool r) (fun x_ => []) := by
  refine Con_of (v := fun (r : Bool) (x_ : Unit) => .bool r) (fs := fun r x_ => []) Try.func69 rfl Try.ntmps69 rfl (SH.start hA) rfl ?_ hr
  unfold F_impl_within
  refine J_seq ?_
  refine J_region ?_
  refine JL_q (wants_none rfl) rfl (ex_assign rfl) ?_
  refine JL_nil ?_
  refine N_then ?_
  refine J_seq ?_
  refine J_region ?_
  refine JL_q (wants_none rfl) rfl (ex_move rfl) ?_
  refine JL_q (wants_none rfl) rfl (ex_move rfl) ?_
  refine JL_q (wants_none rfl) rfl (ex_leq rfl rfl) ?_
  refine JL_q (wants_none rfl) rfl (ex_move rfl) ?_
  refine JL_cond (fun h1 => ?_) (fun h1 => ?_)
  · refine JL_q (wants_some rfl rfl rfl h1) rfl (ex_move rfl) ?_
    refine JL_q (wants_some rfl rfl rfl h1) rfl (ex_move rfl) ?_
    refine JL_q (wants_some rfl rfl rfl h1) rfl (ex_leq rfl rfl) ?_
    refine JL_q (wants_none rfl) rfl (ex_pick_true rfl h1 rfl) ?_
    refine JL_q (wants_none rfl) rfl (ex_assign rfl) ?_
    refine JL_nil ?_
    refine N_then ?_
    refine J_ret ?_
    exact N_ret1 rfl (rv_tmp rfl) (fun w hh => ⟨(), rfl, hh.sel [] rfl⟩)
  · refine JL_passed rfl rfl rfl h1 ?_
    refine JL_passed rfl rfl rfl h1 ?_
    refine JL_passed rfl rfl rfl h1 ?_
    refine JL_q (wants_none rfl) rfl (ex_pick_false rfl h1 rfl) ?_
    refine JL_q (wants_none rfl) rfl (ex_assign rfl) ?_
    refine JL_nil ?_
    refine N_then ?_
    refine J_ret ?_
    exact N_ret1 rfl (rv_tmp rfl) (fun w hh => ⟨(), rfl, hh.sel [] rfl⟩)

set_option maxHeartbeats 40000000 in
theorem c_impl_size_impl_Rule (A : Nat → Prop) (w : World) (hA : ∀ k, A k → k < w.heap.size) (v0_ : Value) (p0 : (List GRule)) (hp0 : Rd A w v0_ p0) (r : Int) (hr : F_impl_size_impl_Rule p0 = some r) :
    Con Try.prog 70 [v0_] A w (fun x_ : Unit => .int .i64 r) (fun x_ => []) := by
  refine Con_of (v := fun (r : Int) (x_ : Unit) => .int .i64 r) (fs := fun r x_ => []) Try.func70 rfl Try.ntmps70 rfl ((SH.start hA).start_rd rfl hp0) rfl ?_ hr
  unfold F_impl_size_impl_Rule
  refine J_seq ?_
  refine J_region ?_
  refine JL_q (wants_none rfl) rfl (ex_assign rfl) ?_
  refine JL_nil ?_
  refine N_then ?_
  refine J_seq ?_
  refine J_region ?_
  refine JL_q (wants_none rfl) rfl (ex_move rfl) ?_
  refine JL_q (wants_none rfl) rfl (ex_len_rd 0 Try.underlying26 rfl rfl) ?_
  refine JL_q (wants_none rfl) rfl (ex_assign rfl) ?_
  refine JL_nil ?_
  refine N_then ?_
  refine J_ret ?_
  exact N_ret1 rfl (rv_tmp rfl) (fun w hh => ⟨(), rfl, hh.sel [] rfl⟩)

set_option maxHeartbeats 40000000 in
theorem c_impl_noRule (A : Nat → Prop) (w : World) (hA : ∀ k, A k → k < w.heap.size)  (r : GRule) (hr : F_impl_noRule  = some r) :
    Con Try.prog 97 [] A w (fun x_ : Unit => .agg #[.int .i64 r.Write, .int .i64 r.Move, .int .i64 r.Next]) (fun x_ => []) := by
  refine Con_of (v := fun (r : GRule) (x_ : Unit) => .agg #[.int .i64 r.Write, .int .i64 r.Move, .int .i64 r.Next]) (fs := fun r x_ => []) Try.func97 rfl Try.ntmps97 rfl (SH.start hA) rfl ?_ hr
  unfold F_impl_noRule
  refine J_seq ?_
  refine J_region ?_
  refine JL_st (wants_none rfl) rfl (st_alloc zi_97 rfl) (fun b1 => ?_)
  refine JL_nil ?_
  refine N_then ?_
  refine J_seq ?_
  refine J_region ?_
  refine JL_q (wants_none rfl) rfl (ex_build si_97 rfl (.cons fi_97_2 rfl rfl .nil) (fun w hh => ⟨cv_int, trivial⟩)) ?_
  refine JL_sk (wants_none rfl) (sk_store_bx' 0 ti_97 rfl rfl (fun w hh => (cv_aggs ⟨cv_int, cv_int, cv_int, trivial⟩)) rfl rfl rfl rfl) ?_
  refine JL_nil ?_
  refine N_then ?_
  refine J_ret ?_
  exact N_ret1 rfl (rv_cell 0 rfl rfl ti_97 rfl) (fun w hh => ⟨(), rfl, hh.sel [] rfl⟩)

set_option maxHeartbeats 40000000 in
theorem c_impl_isRule (A : Nat → Prop) (w : World) (hA : ∀ k, A k → k < w.heap.size) (v0_ : Value) (p0 : GRule) (hp0 : Rd A w v0_ p0) (r : Bool) (hr : F_impl_isRule p0 = some r) :
    Con Try.prog 95 [v0_] A w (fun x_ : Unit => .bool r) (fun x_ => []) := by
  obtain rfl := GRule.open hp0
  refine Con_of (v := fun (r : Bool) (x_ : Unit) => .bool r) (fs := fun r x_ => []) Try.func95 rfl Try.ntmps95 rfl (SH.start hA) rfl ?_ hr
  unfold F_impl_isRule
  refine J_seq ?_
  refine J_region ?_
  refine JL_st (wants_none rfl) rfl (st_box' rfl (fun w hh => (cv_aggs ⟨cv_int, cv_int, cv_int, trivial⟩))) (fun b1 => ?_)
  refine JL_q (wants_none rfl) rfl (ex_assign rfl) ?_
  refine JL_nil ?_
  refine N_then ?_
  refine J_seq ?_
  refine J_draw [] (by kernel_rfl) ?_
  refine JP_take (i := 0) [0] [] rfl (by kernel_rfl) (by kernel_rfl) (by kernel_rfl) rfl rfl (wants_none rfl) rfl (ex_load_bx_agg 0 ti_97 rfl rfl rfl rfl) ?_
  refine JP_go [0] [] rfl rfl rfl (fun w3 h1_4 hp2 => ?_)
  refine JD_bnd fun r5 hr6 => ?_
  refine JD_one (i := 1) (by kernel_rfl) ?_
  refine JO_call rfl (wants_none rfl) rfl Try.call97 rfl (Ca_of0 fun w hh => c_impl_noRule _ w (fun _ hk => hk.elim)  _ hr6) (fun _ => ?_)
  refine JD_take (i := 2) hp2 rfl (by kernel_rfl) (by kernel_rfl) (by kernel_rfl) (wants_none rfl) rfl (ex_neq_seq_97 rfl rfl) ?_
  refine JD_take (i := 3) hp2 rfl (by kernel_rfl) (by kernel_rfl) (by kernel_rfl) (wants_none rfl) rfl (ex_assign rfl) ?_
  refine JD_done (by kernel_rfl) ?_
  refine N_then ?_
  refine J_ret ?_
  exact N_ret1 rfl (rv_tmp rfl) (fun w hh => ⟨(), rfl, hh.sel [] rfl⟩)

set_option maxHeartbeats 40000000 in
theorem c_impl_validRule (A : Nat → Prop) (w : World) (hA : ∀ k, A k → k < w.heap.size) (v0_ : Value) (p0 : GMachine) (hp0 : Rd A w v0_ p0) (v1_ : Value) (p1 : GRule) (hp1 : Rd A w v1_ p1) (r : Bool) (hr : F_impl_validRule p0 p1 = some r) :
    Con Try.prog 73 [v0_, v1_] A w (fun x_ : Unit => .bool r) (fun x_ => []) := by
  obtain ⟨v0_0, rfl, hp0_0⟩ := GMachine.open hp0
  obtain rfl := GRule.open hp1
  refine Con_of (v := fun (r : Bool) (x_ : Unit) => .bool r) (fs := fun r x_ => []) Try.func73 rfl Try.ntmps73 rfl ((SH.start hA).start_rd rfl hp0_0) rfl ?_ hr
  unfold F_impl_validRule
  refine J_seq ?_
  refine J_region ?_
  refine JL_st (wants_none rfl) rfl (st_box' rfl (fun w hh => (cv_aggs ⟨cv_int, cv_int, (hh.cv 0 rfl), trivial⟩))) (fun b1 => ?_)
  refine JL_st (wants_none rfl) rfl (st_box' rfl (fun w hh => (cv_aggs ⟨cv_int, cv_int, cv_int, trivial⟩))) (fun b2 => ?_)
  refine JL_q (wants_none rfl) rfl (ex_assign rfl) ?_
  refine JL_nil ?_
  refine N_then ?_
  refine J_seq ?_
  refine J_seq ?_
  refine J_region ?_
  refine JL_q (wants_none rfl) rfl (ex_load_bx_agg 0 ti_97 rfl rfl rfl rfl) ?_
  refine JL_bnd fun r3 hr4 => ?_
  refine JL_call (wants_none rfl) rfl Try.call95 rfl (Ca_of0 fun w hh => c_impl_isRule _ w (fun _ hk => hk.elim) _ _ (GRule.rdmk (Rd.mk_int _ _ _) (Rd.mk_int _ _ _) (Rd.mk_int _ _ _)) _ hr4) (fun _ => ?_)
  refine JL_q (wants_none rfl) rfl (ex_not rfl) ?_
  refine JL_nil ?_
  refine N_then ?_
  refine J_if rfl (fun h5 => ?_) (fun h5 => ?_)
  · refine J_seq ?_
    refine J_region ?_
    refine JL_q (wants_none rfl) rfl (ex_assign rfl) ?_
    refine JL_nil ?_
    refine N_then ?_
    refine J_ret ?_
    refine N_then_ret ?_
    exact N_ret1 rfl (rv_tmp rfl) (fun w hh => ⟨(), rfl, hh.sel [] rfl⟩)
  · refine J_skip ?_
    refine N_then ?_
    refine J_seq ?_
    refine J_region ?_
    refine JL_q (wants_none rfl) rfl (ex_fieldAddr fi_97_0 rfl rfl) ?_
    refine JL_q (wants_none rfl) rfl (ex_load_bx 0 ti_2 rfl rfl rfl) ?_
    refine JL_q (wants_none rfl) rfl (ex_fieldAddr fi_28_0 rfl rfl) ?_
    refine JL_q (wants_none rfl) rfl (ex_load_bx 1 ti_2 rfl rfl rfl) ?_
    refine JL_q (wants_none rfl) rfl (ex_sub rfl rfl) ?_
    refine JL_bnd fun r6 hr7 => ?_
    refine JL_call (wants_none rfl) rfl Try.call69 rfl (Ca_of0 fun w hh => c_impl_within _ w (fun _ hk => hk.elim) _ _ _ _ hr7) (fun _ => ?_)
    refine JL_q (wants_none rfl) rfl (ex_move rfl) ?_
    refine JL_cond (fun h8 => ?_) (fun h8 => ?_)
    · refine JL_q (wants_some rfl rfl rfl h8) rfl (ex_fieldAddr fi_97_1 rfl rfl) ?_
      refine JL_q (wants_some rfl rfl rfl h8) rfl (ex_load_bx 0 ti_2 rfl rfl rfl) ?_
      refine JL_q (wants_some rfl rfl rfl h8) rfl (ex_eql rfl rfl) ?_
      refine JL_q (wants_some rfl rfl rfl h8) rfl (ex_move rfl) ?_
      refine JL_cond (fun h9 => ?_) (fun h9 => ?_)
      · refine JL_passed rfl rfl rfl h9 ?_
        refine JL_passed rfl rfl rfl h9 ?_
        refine JL_passed rfl rfl rfl h9 ?_
        refine JL_q (wants_some rfl rfl rfl h8) rfl (ex_pick_true rfl h9 rfl) ?_
        refine JL_q (wants_none rfl) rfl (ex_pick_true rfl h8 rfl) ?_
        refine JL_q (wants_none rfl) rfl (ex_move rfl) ?_
        refine JL_q (wants_some rfl rfl rfl rfl) rfl (ex_fieldAddr fi_97_2 rfl rfl) ?_
        refine JL_q (wants_some rfl rfl rfl rfl) rfl (ex_load_bx 0 ti_2 rfl rfl rfl) ?_
        refine JL_q (wants_some rfl rfl rfl rfl) rfl (ex_fieldAddr fi_28_1 rfl rfl) ?_
        refine JL_q (wants_some rfl rfl rfl rfl) rfl (ex_load_bx 1 ti_2 rfl rfl rfl) ?_
        refine JL_q (wants_some rfl rfl rfl rfl) rfl (ex_sub rfl rfl) ?_
        refine JL_bnd fun r10 hr11 => ?_
        refine JL_call (wants_some rfl rfl rfl rfl) rfl Try.call69 rfl (Ca_of0 fun w hh => c_impl_within _ w (fun _ hk => hk.elim) _ _ _ _ hr11) (fun _ => ?_)
        refine JL_q (wants_none rfl) rfl (ex_pick_true rfl rfl rfl) ?_
        refine JL_q (wants_none rfl) rfl (ex_assign rfl) ?_
        refine JL_nil ?_
        refine N_then ?_
        refine J_ret ?_
        exact N_ret1 rfl (rv_tmp rfl) (fun w hh => ⟨(), rfl, hh.sel [] rfl⟩)
      · refine JL_q (wants_some rfl rfl rfl h9) rfl (ex_fieldAddr fi_97_1 rfl rfl) ?_
        refine JL_q (wants_some rfl rfl rfl h9) rfl (ex_load_bx 0 ti_2 rfl rfl rfl) ?_
        refine JL_q (wants_some rfl rfl rfl h9) rfl (ex_eql rfl rfl) ?_
        refine JL_q (wants_some rfl rfl rfl h8) rfl (ex_pick_false rfl h9 rfl) ?_
        refine JL_q (wants_none rfl) rfl (ex_pick_true rfl h8 rfl) ?_
        refine JL_q (wants_none rfl) rfl (ex_move rfl) ?_
        refine JL_cond (fun h12 => ?_) (fun h12 => ?_)
        · refine JL_q (wants_some rfl rfl rfl h12) rfl (ex_fieldAddr fi_97_2 rfl rfl) ?_
          refine JL_q (wants_some rfl rfl rfl h12) rfl (ex_load_bx 0 ti_2 rfl rfl rfl) ?_
          refine JL_q (wants_some rfl rfl rfl h12) rfl (ex_fieldAddr fi_28_1 rfl rfl) ?_
          refine JL_q (wants_some rfl rfl rfl h12) rfl (ex_load_bx 1 ti_2 rfl rfl rfl) ?_
          refine JL_q (wants_some rfl rfl rfl h12) rfl (ex_sub rfl rfl) ?_
          refine JL_bnd fun r13 hr14 => ?_
          refine JL_call (wants_some rfl rfl rfl h12) rfl Try.call69 rfl (Ca_of0 fun w hh => c_impl_within _ w (fun _ hk => hk.elim) _ _ _ _ hr14) (fun _ => ?_)
          refine JL_q (wants_none rfl) rfl (ex_pick_true rfl h12 rfl) ?_
          refine JL_q (wants_none rfl) rfl (ex_assign rfl) ?_
          refine JL_nil ?_
          refine N_then ?_
          refine J_ret ?_
          exact N_ret1 rfl (rv_tmp rfl) (fun w hh => ⟨(), rfl, hh.sel [] rfl⟩)
        · refine JL_passed rfl rfl rfl h12 ?_
          refine JL_passed rfl rfl rfl h12 ?_
          refine JL_passed rfl rfl rfl h12 ?_
          refine JL_passed rfl rfl rfl h12 ?_
          refine JL_passed rfl rfl rfl h12 ?_
          refine JL_passed rfl rfl rfl h12 ?_
          refine JL_q (wants_none rfl) rfl (ex_pick_false rfl h12 rfl) ?_
          refine JL_q (wants_none rfl) rfl (ex_assign rfl) ?_
          refine JL_nil ?_
          refine N_then ?_
          refine J_ret ?_
          exact N_ret1 rfl (rv_tmp rfl) (fun w hh => ⟨(), rfl, hh.sel [] rfl⟩)
    · refine JL_passed rfl rfl rfl h8 ?_
      refine JL_passed rfl rfl rfl h8 ?_
      refine JL_passed rfl rfl rfl h8 ?_
      refine JL_passed rfl rfl rfl h8 ?_
      refine JL_passed_undef rfl rfl rfl ?_
      refine JL_passed_undef rfl rfl rfl ?_
      refine JL_passed_undef rfl rfl rfl ?_
      refine JL_passed rfl rfl rfl h8 ?_
      refine JL_q (wants_none rfl) rfl (ex_pick_false rfl h8 rfl) ?_
      refine JL_q (wants_none rfl) rfl (ex_move rfl) ?_
      refine JL_passed rfl rfl rfl rfl ?_
      refine JL_passed rfl rfl rfl rfl ?_
      refine JL_passed rfl rfl rfl rfl ?_
      refine JL_passed rfl rfl rfl rfl ?_
      refine JL_passed rfl rfl rfl rfl ?_
      refine JL_passed rfl rfl rfl rfl ?_
      refine JL_q (wants_none rfl) rfl (ex_pick_false rfl rfl rfl) ?_
      refine JL_q (wants_none rfl) rfl (ex_assign rfl) ?_
      refine JL_nil ?_
      refine N_then ?_
      refine J_ret ?_
      exact N_ret1 rfl (rv_tmp rfl) (fun w hh => ⟨(), rfl, hh.sel [] rfl⟩)

set_option maxHeartbeats 40000000 in
theorem c_impl_ValidMachine_1 (A : Nat → Prop) (w : World) (hA : ∀ k, A k → k < w.heap.size) (v0_ : Value) (p0 : GRule) (hp0 : Rd A w v0_ p0) (v1_ : Value) (p1 : GMachine) (hp1 : RdA A w.heap.size w v1_ p1) (r : Bool) (hr : F_impl_ValidMachine_1 p0 p1 = some r) :
    Con Try.prog 72 [v0_, v1_] A w (fun x_ : Unit => .bool r) (fun x_ => []) := by
  obtain rfl := GRule.open hp0
  refine Con_of (v := fun (r : Bool) (x_ : Unit) => .bool r) (fs := fun r x_ => []) Try.func72 rfl Try.ntmps72 rfl ((SH.start hA).start_pa' rfl hp1) rfl ?_ hr
  unfold F_impl_ValidMachine_1
  refine J_seq ?_
  refine J_region ?_
  refine JL_st (wants_none rfl) rfl (st_box' rfl (fun w hh => (cv_aggs ⟨cv_int, cv_int, cv_int, trivial⟩))) (fun b1 => ?_)
  refine JL_q (wants_none rfl) rfl (ex_assign rfl) ?_
  refine JL_nil ?_
  refine N_then ?_
  refine J_seq ?_
  refine J_region ?_
  refine JL_st (wants_none rfl) rfl (st_load_pa_o 1 (GMachine.opens _) ti_28 rfl rfl) (fun v2 => ?_)
  refine JL_q (wants_none rfl) rfl (ex_load_bx_agg 1 ti_97 rfl rfl rfl rfl) ?_
  refine JL_bnd fun r3 hr4 => ?_
  refine JL_call (wants_none rfl) rfl Try.call73 rfl (Ca_of0 fun w hh => c_impl_validRule _ w (fun _ hk => hk.elim) _ _ (GMachine.rdmk (Rd.mk_int _ _ _) (Rd.mk_int _ _ _) (hh.rd0 0 rfl)) _ _ (GRule.rdmk (Rd.mk_int _ _ _) (Rd.mk_int _ _ _) (Rd.mk_int _ _ _)) _ hr4) (fun _ => ?_)
  refine JL_q (wants_none rfl) rfl (ex_not rfl) ?_
  refine JL_q (wants_none rfl) rfl (ex_assign rfl) ?_
  refine JL_nil ?_
  refine N_then ?_
  refine J_ret ?_
  exact N_ret1 rfl (rv_tmp rfl) (fun w hh => ⟨(), rfl, hh.sel [] rfl⟩)

set_option maxHeartbeats 40000000 in
theorem c_slices_IndexFunc_Simpl_Rule_impl_Rule (A : Nat → Prop) (w : World) (hA : ∀ k, A k → k < w.heap.size) (v0_ : Value) (p0 : (List GRule)) (hp0 : Rd A w v0_ p0) (v1_ : Value) (p1 : (GRule → Option Bool)) (hp1 : Clo Try.prog w v1_ p1 .bool) (r : Int) (hr : F_slices_IndexFunc_Simpl_Rule_impl_Rule p0 p1 = some r) :
    Con Try.prog 94 [v0_, v1_] A w (fun x_ : Unit => .int .i64 r) (fun x_ => []) := by
  refine Con_of (v := fun (r : Int) (x_ : Unit) => .int .i64 r) (fs := fun r x_ => []) Try.func94 rfl Try.ntmps94 rfl ((SH.start hA).start_rd rfl hp0) rfl ?_ hr
  unfold F_slices_IndexFunc_Simpl_Rule_impl_Rule
  refine J_seq ?_
  refine J_region ?_
  refine JL_q (wants_none rfl) rfl (ex_assign rfl) ?_
  refine JL_nil ?_
  refine N_then ?_
  refine J_seq ?_
  refine J_seq ?_
  refine J_region ?_
  refine JL_q (wants_none rfl) rfl (ex_move rfl) ?_
  refine JL_q (wants_none rfl) rfl (ex_len_rd 0 Try.underlying26 rfl rfl) ?_
  refine JL_q (wants_none rfl) rfl (ex_move rfl) ?_
  refine JL_nil ?_
  refine N_then ?_
  refine J_loop' (S := Int) (G := Unit) (F_slices_IndexFunc_Simpl_Rule_impl_Rule_L1 p0 p1) (fun s1 _ => [(0, v0_), (1, v1_), (7, .int .i64 (p0.length : Int)), (8, .int .i64 s1)]) (fun s1 _ => [.rd v0_ p0]) 0 () ⟨rfl, rfl, rfl, rfl, trivial⟩ [0] rfl rfl (fun s1 g2 => ?_) (fun s1 g2 => ?_)
  · unfold F_slices_IndexFunc_Simpl_Rule_impl_Rule_L1
    refine J_seq ?_
    refine J_region ?_
    refine JL_q (wants_none rfl) rfl (ex_lss rfl rfl) ?_
    refine JL_nil ?_
    refine N_then ?_
    refine J_seq ?_
    refine J_if rfl (fun h3 => ?_) (fun h3 => ?_)
    · refine J_skip ?_
      refine N_then ?_
      refine J_seq ?_
      refine J_block ?_
      refine J_seq ?_
      refine J_region ?_
      refine JL_q (wants_none rfl) rfl (ex_move rfl) ?_
      refine JL_q (wants_none rfl) rfl (ex_assign rfl) ?_
      refine JL_nil ?_
      refine N_then ?_
      refine J_seq ?_
      refine J_region ?_
      refine JL_q (wants_none rfl) rfl (ex_move rfl) ?_
      refine JL_q (wants_none rfl) rfl (ex_move rfl) ?_
      refine JL_q (wants_none rfl) rfl (ex_move rfl) ?_
      refine JL_bnd fun y4 hy5 => ?_
      refine JL_st (wants_none rfl) rfl (st_index 0 Try.underlying26 ti_97 rfl rfl rfl hy5) (fun q6 => ?_)
      refine JL_st (wants_none rfl) rfl (st_load_pt_o 0 (GRule.opens _) ti_97 rfl rfl) (fun _ => ?_)
      refine JL_bnd fun r8 hr9 => ?_
      refine JL_clo (wants_none rfl) rfl hp1 rfl rfl (fun w hh => (GRule.rdmk (Rd.mk_int _ _ _) (Rd.mk_int _ _ _) (Rd.mk_int _ _ _))) hr9 ?_
      refine JL_nil ?_
      refine N_then ?_
      refine J_if rfl (fun h10 => ?_) (fun h10 => ?_)
      · refine J_seq ?_
        refine J_region ?_
        refine JL_q (wants_none rfl) rfl (ex_move rfl) ?_
        refine JL_q (wants_none rfl) rfl (ex_assign rfl) ?_
        refine JL_nil ?_
        refine N_then ?_
        refine J_ret ?_
        refine N_block_ret ?_
        refine N_then_ret ?_
        refine N_round_ret ?_
        refine N_then_ret ?_
        exact N_ret1 rfl (rv_tmp rfl) (fun w hh => ⟨(), rfl, hh.sel [] rfl⟩)
      · refine J_skip ?_
        refine N_block ?_
        refine N_then ?_
        refine J_region ?_
        refine JL_q (wants_none rfl) rfl (ex_add rfl rfl) ?_
        refine JL_q (wants_none rfl) rfl (ex_move rfl) ?_
        refine JL_nil ?_
        exact N_next' () ⟨rfl, rfl, rfl, rfl, trivial⟩ [1] rfl rfl
    · refine J_exit ?_
      refine N_then_exit ?_
      exact N_break' () ⟨rfl, rfl, rfl, rfl, trivial⟩ [0] rfl rfl
  · refine N_then ?_
    refine J_seq ?_
    refine J_region ?_
    refine JL_q (wants_none rfl) rfl (ex_assign rfl) ?_
    refine JL_nil ?_
    refine N_then ?_
    refine J_ret ?_
    exact N_ret1 rfl (rv_tmp rfl) (fun w hh => ⟨(), rfl, hh.sel [] rfl⟩)

set_option maxHeartbeats 40000000 in
theorem c_slices_ContainsFunc_Simpl_Rule_impl_Rule (A : Nat → Prop) (w : World) (hA : ∀ k, A k → k < w.heap.size) (v0_ : Value) (p0 : (List GRule)) (hp0 : Rd A w v0_ p0) (v1_ : Value) (p1 : (GRule → Option Bool)) (hp1 : Clo Try.prog w v1_ p1 .bool) (r : Bool) (hr : F_slices_ContainsFunc_Simpl_Rule_impl_Rule p0 p1 = some r) :
    Con Try.prog 71 [v0_, v1_] A w (fun x_ : Unit => .bool r) (fun x_ => []) := by
  refine Con_of (v := fun (r : Bool) (x_ : Unit) => .bool r) (fs := fun r x_ => []) Try.func71 rfl Try.ntmps71 rfl ((SH.start hA).start_rd rfl hp0) rfl ?_ hr
  unfold F_slices_ContainsFunc_Simpl_Rule_impl_Rule
  refine J_seq ?_
  refine J_region ?_
  refine JL_q (wants_none rfl) rfl (ex_assign rfl) ?_
  refine JL_nil ?_
  refine N_then ?_
  refine J_seq ?_
  refine J_region ?_
  refine JL_q (wants_none rfl) rfl (ex_move rfl) ?_
  refine JL_q (wants_none rfl) rfl (ex_move rfl) ?_
  refine JL_bnd fun r1 hr2 => ?_
  refine JL_call (wants_none rfl) rfl Try.call94 rfl (Ca_of0 fun w hh => c_slices_IndexFunc_Simpl_Rule_impl_Rule _ w (fun _ hk => hk.elim) _ _ (hh.rd0 0 rfl) _ _ (hp1.later hh.below) _ hr2) (fun _ => ?_)
  refine JL_q (wants_none rfl) rfl (ex_geq rfl rfl) ?_
  refine JL_q (wants_none rfl) rfl (ex_assign rfl) ?_
  refine JL_nil ?_
  refine N_then ?_
  refine J_ret ?_
  exact N_ret1 rfl (rv_tmp rfl) (fun w hh => ⟨(), rfl, hh.sel [] rfl⟩)

set_option maxHeartbeats 40000000 in
theorem c_impl_ValidMachine (A : Nat → Prop) (w : World) (hA : ∀ k, A k → k < w.heap.size) (v0_ : Value) (p0 : GMachine) (hp0 : Rd A w v0_ p0) (r : Bool) (hr : F_impl_ValidMachine p0 = some r) :
    Con Try.prog 32 [v0_] A w (fun x_ : Unit => .bool r) (fun x_ => []) := by
  obtain ⟨v0_0, rfl, hp0_0⟩ := GMachine.open hp0
  refine Con_of (v := fun (r : Bool) (x_ : Unit) => .bool r) (fs := fun r x_ => []) Try.func32 rfl Try.ntmps32 rfl ((SH.start hA).start_rd rfl hp0_0) rfl ?_ hr
  unfold F_impl_ValidMachine
  refine J_seq ?_
  refine J_region ?_
  refine JL_st (wants_none rfl) rfl (st_box' rfl (fun w hh => (cv_aggs ⟨cv_int, cv_int, (hh.cv 0 rfl), trivial⟩))) (fun b1 => ?_)
  refine JL_q (wants_none rfl) rfl (ex_assign rfl) ?_
  refine JL_nil ?_
  refine N_then ?_
  refine J_seq ?_
  refine J_seq ?_
  refine J_draw [] (by kernel_rfl) ?_
  refine JP_take (i := 0) [0, 1] [] rfl (by kernel_rfl) (by kernel_rfl) (by kernel_rfl) rfl rfl (wants_none rfl) rfl (ex_fieldAddr fi_28_0 rfl rfl) ?_
  refine JP_take (i := 1) [0, 1] [] rfl (by kernel_rfl) (by kernel_rfl) (by kernel_rfl) rfl rfl (wants_none rfl) rfl (ex_load_bx 0 ti_2 rfl rfl rfl) ?_
  refine JP_go [0, 1] [] rfl rfl rfl (fun w3 h1_4 hp2 => ?_)
  refine JD_bnd fun r5 hr6 => ?_
  refine JD_one (i := 2) (by kernel_rfl) ?_
  refine JO_call rfl (wants_none rfl) rfl Try.call69 rfl (Ca_of0 fun w hh => c_impl_within _ w (fun _ hk => hk.elim) _ _ _ _ hr6) (fun _ => ?_)
  refine JD_take (i := 3) hp2 rfl (by kernel_rfl) (by kernel_rfl) (by kernel_rfl) (wants_none rfl) rfl (ex_not rfl) ?_
  refine JD_take (i := 4) hp2 rfl (by kernel_rfl) (by kernel_rfl) (by kernel_rfl) (wants_none rfl) rfl (ex_move rfl) ?_
  refine JD_cond (fun h7 => ?_) (fun h7 => ?_)
  · refine JD_pass (i := 5) rfl (by kernel_rfl) (by kernel_rfl) (by kernel_rfl) rfl rfl h7 rfl ?_
    refine JD_pass (i := 6) rfl (by kernel_rfl) (by kernel_rfl) (by kernel_rfl) rfl rfl h7 rfl ?_
    refine JD_pass (i := 7) rfl (by kernel_rfl) (by kernel_rfl) (by kernel_rfl) rfl rfl h7 rfl ?_
    refine JD_pass (i := 8) rfl (by kernel_rfl) (by kernel_rfl) (by kernel_rfl) rfl rfl h7 rfl ?_
    refine JD_take (i := 9) hp2 rfl (by kernel_rfl) (by kernel_rfl) (by kernel_rfl) (wants_none rfl) rfl (ex_pick_true rfl h7 rfl) ?_
    refine JD_take (i := 10) hp2 rfl (by kernel_rfl) (by kernel_rfl) (by kernel_rfl) (wants_none rfl) rfl (ex_move rfl) ?_
    refine JD_pass (i := 11) rfl (by kernel_rfl) (by kernel_rfl) (by kernel_rfl) rfl rfl rfl rfl ?_
    refine JD_pass (i := 12) rfl (by kernel_rfl) (by kernel_rfl) (by kernel_rfl) rfl rfl rfl rfl ?_
    refine JD_pass (i := 13) rfl (by kernel_rfl) (by kernel_rfl) (by kernel_rfl) rfl rfl rfl rfl ?_
    refine JD_pass (i := 14) rfl (by kernel_rfl) (by kernel_rfl) (by kernel_rfl) rfl rfl rfl rfl ?_
    refine JD_pass (i := 15) rfl (by kernel_rfl) (by kernel_rfl) (by kernel_rfl) rfl rfl rfl rfl ?_
    refine JD_pass (i := 16) rfl (by kernel_rfl) (by kernel_rfl) (by kernel_rfl) rfl rfl rfl rfl ?_
    refine JD_pass (i := 17) rfl (by kernel_rfl) (by kernel_rfl) (by kernel_rfl) rfl rfl rfl rfl ?_
    refine JD_pass (i := 18) rfl (by kernel_rfl) (by kernel_rfl) (by kernel_rfl) rfl rfl rfl rfl ?_
    refine JD_pass (i := 19) rfl (by kernel_rfl) (by kernel_rfl) (by kernel_rfl) rfl rfl rfl rfl ?_
    refine JD_take (i := 20) hp2 rfl (by kernel_rfl) (by kernel_rfl) (by kernel_rfl) (wants_none rfl) rfl (ex_pick_true rfl rfl rfl) ?_
    refine JD_done (by kernel_rfl) ?_
    refine N_then ?_
    refine J_if_true rfl rfl ?_
    refine J_seq ?_
    refine J_region ?_
    refine JL_q (wants_none rfl) rfl (ex_assign rfl) ?_
    refine JL_nil ?_
    refine N_then ?_
    refine J_ret ?_
    refine N_then_ret ?_
    exact N_ret1 rfl (rv_tmp rfl) (fun w hh => ⟨(), rfl, hh.sel [] rfl⟩)
  · refine JD_take (i := 5) hp2 rfl (by kernel_rfl) (by kernel_rfl) (by kernel_rfl) (wants_some rfl rfl rfl h7) rfl (ex_fieldAddr fi_28_1 rfl rfl) ?_
    refine JD_take (i := 6) hp2 rfl (by kernel_rfl) (by kernel_rfl) (by kernel_rfl) (wants_some rfl rfl rfl h7) rfl (ex_load_bx 0 ti_2 rfl rfl rfl) ?_
    refine JD_bnd fun r8 hr9 => ?_
    refine JD_one (i := 7) (by kernel_rfl) ?_
    refine JO_call rfl (wants_some rfl rfl rfl h7) rfl Try.call69 rfl (Ca_of0 fun w hh => c_impl_within _ w (fun _ hk => hk.elim) _ _ _ _ hr9) (fun _ => ?_)
    refine JD_take (i := 8) hp2 rfl (by kernel_rfl) (by kernel_rfl) (by kernel_rfl) (wants_some rfl rfl rfl h7) rfl (ex_not rfl) ?_
    refine JD_take (i := 9) hp2 rfl (by kernel_rfl) (by kernel_rfl) (by kernel_rfl) (wants_none rfl) rfl (ex_pick_false rfl h7 rfl) ?_
    refine JD_take (i := 10) hp2 rfl (by kernel_rfl) (by kernel_rfl) (by kernel_rfl) (wants_none rfl) rfl (ex_move rfl) ?_
    refine JD_cond (fun h10 => ?_) (fun h10 => ?_)
    · refine JD_pass (i := 11) rfl (by kernel_rfl) (by kernel_rfl) (by kernel_rfl) rfl rfl h10 rfl ?_
      refine JD_pass (i := 12) rfl (by kernel_rfl) (by kernel_rfl) (by kernel_rfl) rfl rfl h10 rfl ?_
      refine JD_pass (i := 13) rfl (by kernel_rfl) (by kernel_rfl) (by kernel_rfl) rfl rfl h10 rfl ?_
      refine JD_pass (i := 14) rfl (by kernel_rfl) (by kernel_rfl) (by kernel_rfl) rfl rfl h10 rfl ?_
      refine JD_pass (i := 15) rfl (by kernel_rfl) (by kernel_rfl) (by kernel_rfl) rfl rfl h10 rfl ?_
      refine JD_pass (i := 16) rfl (by kernel_rfl) (by kernel_rfl) (by kernel_rfl) rfl rfl h10 rfl ?_
      refine JD_pass (i := 17) rfl (by kernel_rfl) (by kernel_rfl) (by kernel_rfl) rfl rfl h10 rfl ?_
      refine JD_pass (i := 18) rfl (by kernel_rfl) (by kernel_rfl) (by kernel_rfl) rfl rfl h10 rfl ?_
      refine JD_pass (i := 19) rfl (by kernel_rfl) (by kernel_rfl) (by kernel_rfl) rfl rfl h10 rfl ?_
      refine JD_take (i := 20) hp2 rfl (by kernel_rfl) (by kernel_rfl) (by kernel_rfl) (wants_none rfl) rfl (ex_pick_true rfl h10 rfl) ?_
      refine JD_done (by kernel_rfl) ?_
      refine N_then ?_
      refine J_if_true rfl rfl ?_
      refine J_seq ?_
      refine J_region ?_
      refine JL_q (wants_none rfl) rfl (ex_assign rfl) ?_
      refine JL_nil ?_
      refine N_then ?_
      refine J_ret ?_
      refine N_then_ret ?_
      exact N_ret1 rfl (rv_tmp rfl) (fun w hh => ⟨(), rfl, hh.sel [] rfl⟩)
    · refine JD_take (i := 11) hp2 rfl (by kernel_rfl) (by kernel_rfl) (by kernel_rfl) (wants_some rfl rfl rfl h10) rfl (ex_fieldAddr fi_28_2 rfl rfl) ?_
      refine JD_take (i := 12) hp2 rfl (by kernel_rfl) (by kernel_rfl) (by kernel_rfl) (wants_some rfl rfl rfl h10) rfl (ex_load_bx 0 ti_26 rfl rfl rfl) ?_
      refine JD_take (i := 14) hp2 rfl (by kernel_rfl) (by kernel_rfl) (by kernel_rfl) (wants_some rfl rfl rfl h10) rfl (ex_fieldAddr fi_28_1 rfl rfl) ?_
      refine JD_take (i := 15) hp2 rfl (by kernel_rfl) (by kernel_rfl) (by kernel_rfl) (wants_some rfl rfl rfl h10) rfl (ex_load_bx 0 ti_2 rfl rfl rfl) ?_
      refine JD_take (i := 16) hp2 rfl (by kernel_rfl) (by kernel_rfl) (by kernel_rfl) (wants_some rfl rfl rfl h10) rfl (ex_fieldAddr fi_28_0 rfl rfl) ?_
      refine JD_take (i := 17) hp2 rfl (by kernel_rfl) (by kernel_rfl) (by kernel_rfl) (wants_some rfl rfl rfl h10) rfl (ex_load_bx 0 ti_2 rfl rfl rfl) ?_
      refine JD_take (i := 18) hp2 rfl (by kernel_rfl) (by kernel_rfl) (by kernel_rfl) (wants_some rfl rfl rfl h10) rfl (ex_mul rfl rfl) ?_
      refine JD_bnd fun r11 hr12 => ?_
      refine JD_one (i := 13) (by kernel_rfl) ?_
      refine JO_call rfl (wants_some rfl rfl rfl h10) rfl Try.call70 rfl (Ca_of0 fun w hh => c_impl_size_impl_Rule _ w (fun _ hk => hk.elim) _ _ (hh.rd0 1 rfl) _ hr12) (fun _ => ?_)
      refine JD_take (i := 19) hp2 rfl (by kernel_rfl) (by kernel_rfl) (by kernel_rfl) (wants_some rfl rfl rfl h10) rfl (ex_neq rfl rfl) ?_
      refine JD_take (i := 20) hp2 rfl (by kernel_rfl) (by kernel_rfl) (by kernel_rfl) (wants_none rfl) rfl (ex_pick_false rfl h10 rfl) ?_
      refine JD_done (by kernel_rfl) ?_
      refine N_then ?_
      refine J_if rfl (fun h13 => ?_) (fun h13 => ?_)
      · refine J_seq ?_
        refine J_region ?_
        refine JL_q (wants_none rfl) rfl (ex_assign rfl) ?_
        refine JL_nil ?_
        refine N_then ?_
        refine J_ret ?_
        refine N_then_ret ?_
        exact N_ret1 rfl (rv_tmp rfl) (fun w hh => ⟨(), rfl, hh.sel [] rfl⟩)
      · refine J_skip ?_
        refine N_then ?_
        refine J_seq ?_
        refine J_region ?_
        refine JL_q (wants_none rfl) rfl (ex_fieldAddr fi_28_2 rfl rfl) ?_
        refine JL_q (wants_none rfl) rfl (ex_load_bx 0 ti_26 rfl rfl rfl) ?_
        refine JL_q (wants_none rfl) rfl (ex_makeFunc rfl) ?_
        refine JL_bnd fun r14 hr15 => ?_
        refine JL_call (wants_none rfl) rfl Try.call71 rfl (Ca_of0 fun w hh => c_slices_ContainsFunc_Simpl_Rule_impl_Rule _ w (fun _ hk => hk.elim) _ _ (hh.rd0 1 rfl) _ _ (Clo.mk (caps := [.pointer (some ⟨b1, 0, none⟩)]) Try.call72 (fun w_ hb_ v_ x_ r_ hrd_ hr_ => c_impl_ValidMachine_1 nowhere w_ (fun _ hk => hk.elim) v_ x_ hrd_ _ _ ((hh.bx_pa 0 rfl (GMachine.rdmk (Rd.mk_int _ _ _) (Rd.mk_int _ _ _) (hh.rd0 1 rfl)) rfl).later hb_) _ hr_)) _ hr15) (fun _ => ?_)
        refine JL_q (wants_none rfl) rfl (ex_not rfl) ?_
        refine JL_q (wants_none rfl) rfl (ex_assign rfl) ?_
        refine JL_nil ?_
        refine N_then ?_
        refine J_ret ?_
        exact N_ret1 rfl (rv_tmp rfl) (fun w hh => ⟨(), rfl, hh.sel [] rfl⟩)

set_option maxHeartbeats 40000000 in
theorem c_laws_eqRule (A : Nat → Prop) (w : World) (hA : ∀ k, A k → k < w.heap.size) (v0_ : Value) (p0 : GRule) (hp0 : Rd A w v0_ p0) (v1_ : Value) (p1 : GRule) (hp1 : Rd A w v1_ p1) (r : Bool) (hr : F_laws_eqRule p0 p1 = some r) :
    Con Try.prog 78 [v0_, v1_] A w (fun x_ : Unit => .bool r) (fun x_ => []) := by
  obtain rfl := GRule.open hp0
  obtain rfl := GRule.open hp1
  refine Con_of (v := fun (r : Bool) (x_ : Unit) => .bool r) (fs := fun r x_ => []) Try.func78 rfl Try.ntmps78 rfl (SH.start hA) rfl ?_ hr
  unfold F_laws_eqRule
  refine J_seq ?_
  refine J_region ?_
  refine JL_st (wants_none rfl) rfl (st_box' rfl (fun w hh => (cv_aggs ⟨cv_int, cv_int, cv_int, trivial⟩))) (fun b1 => ?_)
  refine JL_st (wants_none rfl) rfl (st_box' rfl (fun w hh => (cv_aggs ⟨cv_int, cv_int, cv_int, trivial⟩))) (fun b2 => ?_)
  refine JL_q (wants_none rfl) rfl (ex_assign rfl) ?_
  refine JL_nil ?_
  refine N_then ?_
  refine J_seq ?_
  refine J_seq ?_
  refine J_region ?_
  refine JL_q (wants_none rfl) rfl (ex_fieldAddr fi_97_0 rfl rfl) ?_
  refine JL_q (wants_none rfl) rfl (ex_load_bx 1 ti_2 rfl rfl rfl) ?_
  refine JL_q (wants_none rfl) rfl (ex_fieldAddr fi_97_0 rfl rfl) ?_
  refine JL_q (wants_none rfl) rfl (ex_load_bx 0 ti_2 rfl rfl rfl) ?_
  refine JL_q (wants_none rfl) rfl (ex_neq rfl rfl) ?_
  refine JL_nil ?_
  refine N_then ?_
  refine J_if rfl (fun h3 => ?_) (fun h3 => ?_)
  · refine J_seq ?_
    refine J_region ?_
    refine JL_q (wants_none rfl) rfl (ex_assign rfl) ?_
    refine JL_nil ?_
    refine N_then ?_
    refine J_ret ?_
    refine N_then_ret ?_
    exact N_ret1 rfl (rv_tmp rfl) (fun w hh => ⟨(), rfl, hh.sel [] rfl⟩)
  · refine J_skip ?_
    refine N_then ?_
    refine J_seq ?_
    refine J_seq ?_
    refine J_region ?_
    refine JL_q (wants_none rfl) rfl (ex_fieldAddr fi_97_1 rfl rfl) ?_
    refine JL_q (wants_none rfl) rfl (ex_load_bx 1 ti_2 rfl rfl rfl) ?_
    refine JL_q (wants_none rfl) rfl (ex_fieldAddr fi_97_1 rfl rfl) ?_
    refine JL_q (wants_none rfl) rfl (ex_load_bx 0 ti_2 rfl rfl rfl) ?_
    refine JL_q (wants_none rfl) rfl (ex_neq rfl rfl) ?_
    refine JL_nil ?_
    refine N_then ?_
    refine J_if rfl (fun h4 => ?_) (fun h4 => ?_)
    · refine J_seq ?_
      refine J_region ?_
      refine JL_q (wants_none rfl) rfl (ex_assign rfl) ?_
      refine JL_nil ?_
      refine N_then ?_
      refine J_ret ?_
      refine N_then_ret ?_
      exact N_ret1 rfl (rv_tmp rfl) (fun w hh => ⟨(), rfl, hh.sel [] rfl⟩)
    · refine J_skip ?_
      refine N_then ?_
      refine J_seq ?_
      refine J_seq ?_
      refine J_region ?_
      refine JL_q (wants_none rfl) rfl (ex_fieldAddr fi_97_2 rfl rfl) ?_
      refine JL_q (wants_none rfl) rfl (ex_load_bx 1 ti_2 rfl rfl rfl) ?_
      refine JL_q (wants_none rfl) rfl (ex_fieldAddr fi_97_2 rfl rfl) ?_
      refine JL_q (wants_none rfl) rfl (ex_load_bx 0 ti_2 rfl rfl rfl) ?_
      refine JL_q (wants_none rfl) rfl (ex_neq rfl rfl) ?_
      refine JL_nil ?_
      refine N_then ?_
      refine J_if rfl (fun h5 => ?_) (fun h5 => ?_)
      · refine J_seq ?_
        refine J_region ?_
        refine JL_q (wants_none rfl) rfl (ex_assign rfl) ?_
        refine JL_nil ?_
        refine N_then ?_
        refine J_ret ?_
        refine N_then_ret ?_
        exact N_ret1 rfl (rv_tmp rfl) (fun w hh => ⟨(), rfl, hh.sel [] rfl⟩)
      · refine J_skip ?_
        refine N_then ?_
        refine J_seq ?_
        refine J_region ?_
        refine JL_q (wants_none rfl) rfl (ex_assign rfl) ?_
        refine JL_nil ?_
        refine N_then ?_
        refine J_ret ?_
        exact N_ret1 rfl (rv_tmp rfl) (fun w hh => ⟨(), rfl, hh.sel [] rfl⟩)

set_option maxHeartbeats 40000000 in
theorem c_laws_eqRuleS (A : Nat → Prop) (w : World) (hA : ∀ k, A k → k < w.heap.size) (v0_ : Value) (p0 : (List GRule)) (hp0 : Rd A w v0_ p0) (v1_ : Value) (p1 : (List GRule)) (hp1 : Rd A w v1_ p1) (r : Bool) (hr : F_laws_eqRuleS p0 p1 = some r) :
    Con Try.prog 35 [v0_, v1_] A w (fun x_ : Unit => .bool r) (fun x_ => []) := by
  refine Con_of (v := fun (r : Bool) (x_ : Unit) => .bool r) (fs := fun r x_ => []) Try.func35 rfl Try.ntmps35 rfl (((SH.start hA).start_rd rfl hp0).start_rd rfl hp1) rfl ?_ hr
  unfold F_laws_eqRuleS
  refine J_seq ?_
  refine J_region ?_
  refine JL_q (wants_none rfl) rfl (ex_assign rfl) ?_
  refine JL_nil ?_
  refine N_then ?_
  refine J_seq ?_
  refine J_seq ?_
  refine J_region ?_
  refine JL_q (wants_none rfl) rfl (ex_move rfl) ?_
  refine JL_q (wants_none rfl) rfl (ex_len_rd 1 Try.underlying26 rfl rfl) ?_
  refine JL_q (wants_none rfl) rfl (ex_move rfl) ?_
  refine JL_q (wants_none rfl) rfl (ex_len_rd 0 Try.underlying26 rfl rfl) ?_
  refine JL_q (wants_none rfl) rfl (ex_neq rfl rfl) ?_
  refine JL_nil ?_
  refine N_then ?_
  refine J_if rfl (fun h1 => ?_) (fun h1 => ?_)
  · refine J_seq ?_
    refine J_region ?_
    refine JL_q (wants_none rfl) rfl (ex_assign rfl) ?_
    refine JL_nil ?_
    refine N_then ?_
    refine J_ret ?_
    refine N_then_ret ?_
    exact N_ret1 rfl (rv_tmp rfl) (fun w hh => ⟨(), rfl, hh.sel [] rfl⟩)
  · refine J_skip ?_
    refine N_then ?_
    refine J_seq ?_
    refine J_seq ?_
    refine J_region ?_
    refine JL_q (wants_none rfl) rfl (ex_assign rfl) ?_
    refine JL_nil ?_
    refine N_then ?_
    refine J_loop' (S := Int) (G := Unit) (F_laws_eqRuleS_L1 p0 p1) (fun s2 _ => [(0, v0_), (1, v1_), (5, .int .i64 s2)]) (fun s2 _ => [.rd v0_ p0, .rd v1_ p1]) 0 () ⟨rfl, rfl, rfl, trivial⟩ [1, 0] rfl rfl (fun s2 g3 => ?_) (fun s2 g3 => ?_)
    · unfold F_laws_eqRuleS_L1
      refine J_seq ?_
      refine J_seq ?_
      refine J_region ?_
      refine JL_q (wants_none rfl) rfl (ex_move rfl) ?_
      refine JL_q (wants_none rfl) rfl (ex_move rfl) ?_
      refine JL_q (wants_none rfl) rfl (ex_len_rd 0 Try.underlying26 rfl rfl) ?_
      refine JL_q (wants_none rfl) rfl (ex_lss rfl rfl) ?_
      refine JL_nil ?_
      refine N_then ?_
      refine J_if rfl (fun h4 => ?_) (fun h4 => ?_)
      · refine J_skip ?_
        refine N_then ?_
        refine J_seq ?_
        refine J_block ?_
        refine J_seq ?_
        refine J_draw [] (by kernel_rfl) ?_
        refine JP_take (i := 0) [0, 1] [] rfl (by kernel_rfl) (by kernel_rfl) (by kernel_rfl) rfl rfl (wants_none rfl) rfl (ex_move rfl) ?_
        refine JP_take (i := 1) [0, 1] [] rfl (by kernel_rfl) (by kernel_rfl) (by kernel_rfl) rfl rfl (wants_none rfl) rfl (ex_move rfl) ?_
        refine JP_bnd fun y5 hy6 => ?_
        refine JP_sq (i := 2) [] rfl (by kernel_rfl) (by kernel_rfl) (by kernel_rfl) rfl (wants_none rfl) rfl (sq_index 0 Try.underlying26 ti_97 rfl rfl rfl hy6) (fun q7 => ?_)
        refine JP_sq (i := 3) [] rfl (by kernel_rfl) (by kernel_rfl) (by kernel_rfl) rfl (wants_none rfl) rfl (sq_load_pt_o 0 (GRule.opens _) ti_97 rfl rfl) (fun _ => ?_)
        refine JP_take (i := 4) [0, 1, 2] [] rfl (by kernel_rfl) (by kernel_rfl) (by kernel_rfl) rfl rfl (wants_none rfl) rfl (ex_move rfl) ?_
        refine JP_take (i := 5) [0, 1, 2] [] rfl (by kernel_rfl) (by kernel_rfl) (by kernel_rfl) rfl rfl (wants_none rfl) rfl (ex_move rfl) ?_
        refine JP_bnd fun y9 hy10 => ?_
        refine JP_sq (i := 6) [] rfl (by kernel_rfl) (by kernel_rfl) (by kernel_rfl) rfl (wants_none rfl) rfl (sq_index 2 Try.underlying26 ti_97 rfl rfl rfl hy10) (fun q11 => ?_)
        refine JP_sq (i := 7) [] rfl (by kernel_rfl) (by kernel_rfl) (by kernel_rfl) rfl (wants_none rfl) rfl (sq_load_pt_o 0 (GRule.opens _) ti_97 rfl rfl) (fun _ => ?_)
        refine JP_go [0, 1, 2, 3] [] rfl rfl rfl (fun w14 h1_15 hp13 => ?_)
        refine JD_bnd fun r16 hr17 => ?_
        refine JD_one (i := 8) (by kernel_rfl) ?_
        refine JO_call rfl (wants_none rfl) rfl Try.call78 rfl (Ca_of0 fun w hh => c_laws_eqRule _ w (fun _ hk => hk.elim) _ _ (GRule.rdmk (Rd.mk_int _ _ _) (Rd.mk_int _ _ _) (Rd.mk_int _ _ _)) _ _ (GRule.rdmk (Rd.mk_int _ _ _) (Rd.mk_int _ _ _) (Rd.mk_int _ _ _)) _ hr17) (fun _ => ?_)
        refine JD_take (i := 9) hp13 rfl (by kernel_rfl) (by kernel_rfl) (by kernel_rfl) (wants_none rfl) rfl (ex_not rfl) ?_
        refine JD_done (by kernel_rfl) ?_
        refine N_then ?_
        refine J_if rfl (fun h18 => ?_) (fun h18 => ?_)
        · refine J_seq ?_
          refine J_region ?_
          refine JL_q (wants_none rfl) rfl (ex_assign rfl) ?_
          refine JL_nil ?_
          refine N_then ?_
          refine J_ret ?_
          refine N_block_ret ?_
          refine N_then_ret ?_
          refine N_round_ret ?_
          refine N_then_ret ?_
          exact N_ret1 rfl (rv_tmp rfl) (fun w hh => ⟨(), rfl, hh.sel [] rfl⟩)
        · refine J_skip ?_
          refine N_block ?_
          refine N_then ?_
          refine J_region ?_
          refine JL_q (wants_none rfl) rfl (ex_move rfl) ?_
          refine JL_q (wants_none rfl) rfl (ex_add rfl rfl) ?_
          refine JL_q (wants_none rfl) rfl (ex_assign rfl) ?_
          refine JL_nil ?_
          exact N_next' () ⟨rfl, rfl, rfl, trivial⟩ [2, 3] rfl rfl
      · refine J_exit ?_
        refine N_then_exit ?_
        exact N_break' () ⟨rfl, rfl, rfl, trivial⟩ [0, 1] rfl rfl
    · refine N_then ?_
      refine J_seq ?_
      refine J_region ?_
      refine JL_q (wants_none rfl) rfl (ex_assign rfl) ?_
      refine JL_nil ?_
      refine N_then ?_
      refine J_ret ?_
      exact N_ret1 rfl (rv_tmp rfl) (fun w hh => ⟨(), rfl, hh.sel [] rfl⟩)

set_option maxHeartbeats 40000000 in
theorem c_laws_eqMachine (A : Nat → Prop) (w : World) (hA : ∀ k, A k → k < w.heap.size) (v0_ : Value) (p0 : GMachine) (hp0 : Rd A w v0_ p0) (v1_ : Value) (p1 : GMachine) (hp1 : Rd A w v1_ p1) (r : Bool) (hr : F_laws_eqMachine p0 p1 = some r) :
    Con Try.prog 12 [v0_, v1_] A w (fun x_ : Unit => .bool r) (fun x_ => []) := by
  obtain ⟨v0_0, rfl, hp0_0⟩ := GMachine.open hp0
  obtain ⟨v1_0, rfl, hp1_0⟩ := GMachine.open hp1
  refine Con_of (v := fun (r : Bool) (x_ : Unit) => .bool r) (fs := fun r x_ => []) Try.func12 rfl Try.ntmps12 rfl (((SH.start hA).start_rd rfl hp0_0).start_rd rfl hp1_0) rfl ?_ hr
  unfold F_laws_eqMachine
  refine J_seq ?_
  refine J_region ?_
  refine JL_st (wants_none rfl) rfl (st_box' rfl (fun w hh => (cv_aggs ⟨cv_int, cv_int, (hh.cv 1 rfl), trivial⟩))) (fun b1 => ?_)
  refine JL_st (wants_none rfl) rfl (st_box' rfl (fun w hh => (cv_aggs ⟨cv_int, cv_int, (hh.cv 1 rfl), trivial⟩))) (fun b2 => ?_)
  refine JL_q (wants_none rfl) rfl (ex_assign rfl) ?_
  refine JL_nil ?_
  refine N_then ?_
  refine J_seq ?_
  refine J_seq ?_
  refine J_region ?_
  refine JL_q (wants_none rfl) rfl (ex_fieldAddr fi_28_0 rfl rfl) ?_
  refine JL_q (wants_none rfl) rfl (ex_load_bx 1 ti_2 rfl rfl rfl) ?_
  refine JL_q (wants_none rfl) rfl (ex_fieldAddr fi_28_0 rfl rfl) ?_
  refine JL_q (wants_none rfl) rfl (ex_load_bx 0 ti_2 rfl rfl rfl) ?_
  refine JL_q (wants_none rfl) rfl (ex_neq rfl rfl) ?_
  refine JL_nil ?_
  refine N_then ?_
  refine J_if rfl (fun h3 => ?_) (fun h3 => ?_)
  · refine J_seq ?_
    refine J_region ?_
    refine JL_q (wants_none rfl) rfl (ex_assign rfl) ?_
    refine JL_nil ?_
    refine N_then ?_
    refine J_ret ?_
    refine N_then_ret ?_
    exact N_ret1 rfl (rv_tmp rfl) (fun w hh => ⟨(), rfl, hh.sel [] rfl⟩)
  · refine J_skip ?_
    refine N_then ?_
    refine J_seq ?_
    refine J_seq ?_
    refine J_region ?_
    refine JL_q (wants_none rfl) rfl (ex_fieldAddr fi_28_1 rfl rfl) ?_
    refine JL_q (wants_none rfl) rfl (ex_load_bx 1 ti_2 rfl rfl rfl) ?_
    refine JL_q (wants_none rfl) rfl (ex_fieldAddr fi_28_1 rfl rfl) ?_
    refine JL_q (wants_none rfl) rfl (ex_load_bx 0 ti_2 rfl rfl rfl) ?_
    refine JL_q (wants_none rfl) rfl (ex_neq rfl rfl) ?_
    refine JL_nil ?_
    refine N_then ?_
    refine J_if rfl (fun h4 => ?_) (fun h4 => ?_)
    · refine J_seq ?_
      refine J_region ?_
      refine JL_q (wants_none rfl) rfl (ex_assign rfl) ?_
      refine JL_nil ?_
      refine N_then ?_
      refine J_ret ?_
      refine N_then_ret ?_
      exact N_ret1 rfl (rv_tmp rfl) (fun w hh => ⟨(), rfl, hh.sel [] rfl⟩)
    · refine J_skip ?_
      refine N_then ?_
      refine J_seq ?_
      refine J_seq ?_
      refine J_region ?_
      refine JL_q (wants_none rfl) rfl (ex_fieldAddr fi_28_2 rfl rfl) ?_
      refine JL_q (wants_none rfl) rfl (ex_load_bx 1 ti_26 rfl rfl rfl) ?_
      refine JL_q (wants_none rfl) rfl (ex_fieldAddr fi_28_2 rfl rfl) ?_
      refine JL_q (wants_none rfl) rfl (ex_load_bx 0 ti_26 rfl rfl rfl) ?_
      refine JL_bnd fun r5 hr6 => ?_
      refine JL_call (wants_none rfl) rfl Try.call35 rfl (Ca_of0 fun w hh => c_laws_eqRuleS _ w (fun _ hk => hk.elim) _ _ (hh.rd0 3 rfl) _ _ (hh.rd0 2 rfl) _ hr6) (fun _ => ?_)
      refine JL_q (wants_none rfl) rfl (ex_not rfl) ?_
      refine JL_nil ?_
      refine N_then ?_
      refine J_if rfl (fun h7 => ?_) (fun h7 => ?_)
      · refine J_seq ?_
        refine J_region ?_
        refine JL_q (wants_none rfl) rfl (ex_assign rfl) ?_
        refine JL_nil ?_
        refine N_then ?_
        refine J_ret ?_
        refine N_then_ret ?_
        exact N_ret1 rfl (rv_tmp rfl) (fun w hh => ⟨(), rfl, hh.sel [] rfl⟩)
      · refine J_skip ?_
        refine N_then ?_
        refine J_seq ?_
        refine J_region ?_
        refine JL_q (wants_none rfl) rfl (ex_assign rfl) ?_
        refine JL_nil ?_
        refine N_then ?_
        refine J_ret ?_
        exact N_ret1 rfl (rv_tmp rfl) (fun w hh => ⟨(), rfl, hh.sel [] rfl⟩)

theorem mk_laws_markRuleS : MarkCon Try.prog 36 F_laws_markRuleS := by
  intro w v0_ p0 B_ p1 r hd_ hn_ hr
  refine (ConM_of (vs := [v0_, .int .i64 p1]) (v := fun (r : Int × (List GRule)) (_ : Unit) => .int .i64 r.1) (fs := fun r _ => [mkr v0_ r.2 B_, rest w B_]) Try.func36 rfl Try.ntmps36 rfl (mark_start hd_ hn_) rfl ?_ hr).mono (fun e w2 h_ => by obtain ⟨_, he, hk⟩ := h_; exact ⟨he, mark_end hk⟩)
  unfold F_laws_markRuleS
  refine J_seq ?_
  refine J_region ?_
  refine JL_q (wants_none rfl) rfl (ex_assign rfl) ?_
  refine JL_nil ?_
  refine N_then ?_
  refine J_seq ?_
  refine J_seq ?_
  refine J_region ?_
  refine JL_q (wants_none rfl) rfl (ex_assign rfl) ?_
  refine JL_nil ?_
  refine N_then ?_
  refine J_loop' (S := (List GRule) × Int × Int) (G := Unit) (F_laws_markRuleS_L1) (fun s1 _ => [(0, v0_), (1, .int .i64 s1.2.1), (5, .int .i64 s1.2.2)]) (fun s1 _ => [rest w B_, mkr v0_ s1.1 B_]) (p0, p1, 0) () ⟨rfl, rfl, rfl, trivial⟩ [1, 0] rfl rfl (fun s1 g2 => ?_) (fun s1 g2 => ?_)
  · unfold F_laws_markRuleS_L1
    refine J_seq ?_
    refine J_seq ?_
    refine J_region ?_
    refine JL_q (wants_none rfl) rfl (ex_move rfl) ?_
    refine JL_q (wants_none rfl) rfl (ex_move rfl) ?_
    refine JL_q (wants_none rfl) rfl (ex_len_mk 1 Try.underlying26 rfl rfl) ?_
    refine JL_q (wants_none rfl) rfl (ex_lss rfl rfl) ?_
    refine JL_nil ?_
    refine N_then ?_
    refine J_if rfl (fun h3 => ?_) (fun h3 => ?_)
    · refine J_skip ?_
      refine N_then ?_
      refine J_seq ?_
      refine J_block ?_
      refine J_seq ?_
      refine J_region ?_
      refine JL_q (wants_none rfl) rfl (ex_move rfl) ?_
      refine JL_q (wants_none rfl) rfl (ex_move rfl) ?_
      refine JL_q (wants_none rfl) rfl (ex_move rfl) ?_
      refine JL_bnd fun y4 hy5 => ?_
      refine JL_mk_open 1 rfl hy5 ?_; rintro b6 o8 cap7 rfl
      refine JL_q (wants_none rfl) rfl (ex_index_lit Try.underlying26 ti_97 rfl rfl hy5 (by first | rfl | simp)) ?_
      refine JL_q (wants_none rfl) rfl (ex_fieldAddr fi_97_0 rfl rfl) ?_
      refine JL_sk (wants_none rfl) (sk_store_mk 1 (GRule.fs_Write _) ti_2 rfl rfl rfl hy5) ?_
      refine JL_nil ?_
      refine N_then ?_
      refine J_seq ?_
      refine J_region ?_
      refine JL_q (wants_none rfl) rfl (ex_move rfl) ?_
      refine JL_q (wants_none rfl) rfl (ex_add rfl rfl) ?_
      refine JL_q (wants_none rfl) rfl (ex_assign rfl) ?_
      refine JL_nil ?_
      refine N_then ?_
      refine J_seq ?_
      refine J_region ?_
      refine JL_q (wants_none rfl) rfl (ex_move rfl) ?_
      refine JL_q (wants_none rfl) rfl (ex_move rfl) ?_
      refine JL_q (wants_none rfl) rfl (ex_move rfl) ?_
      refine JL_bnd fun y9 hy10 => ?_
      refine JL_q (wants_none rfl) rfl (ex_index_lit Try.underlying26 ti_97 rfl rfl hy10 (by first | rfl | simp)) ?_
      refine JL_q (wants_none rfl) rfl (ex_fieldAddr fi_97_1 rfl rfl) ?_
      refine JL_sk (wants_none rfl) (sk_store_mk 1 (GRule.fs_Move _) ti_2 rfl rfl rfl hy10) ?_
      refine JL_nil ?_
      refine N_then ?_
      refine J_seq ?_
      refine J_region ?_
      refine JL_q (wants_none rfl) rfl (ex_move rfl) ?_
      refine JL_q (wants_none rfl) rfl (ex_add rfl rfl) ?_
      refine JL_q (wants_none rfl) rfl (ex_assign rfl) ?_
      refine JL_nil ?_
      refine N_then ?_
      refine J_seq ?_
      refine J_region ?_
      refine JL_q (wants_none rfl) rfl (ex_move rfl) ?_
      refine JL_q (wants_none rfl) rfl (ex_move rfl) ?_
      refine JL_q (wants_none rfl) rfl (ex_move rfl) ?_
      refine JL_bnd fun y11 hy12 => ?_
      refine JL_q (wants_none rfl) rfl (ex_index_lit Try.underlying26 ti_97 rfl rfl hy12 (by first | rfl | simp)) ?_
      refine JL_q (wants_none rfl) rfl (ex_fieldAddr fi_97_2 rfl rfl) ?_
      refine JL_sk (wants_none rfl) (sk_store_mk 1 (GRule.fs_Next _) ti_2 rfl rfl rfl hy12) ?_
      refine JL_nil ?_
      refine N_then ?_
      refine J_region ?_
      refine JL_q (wants_none rfl) rfl (ex_move rfl) ?_
      refine JL_q (wants_none rfl) rfl (ex_add rfl rfl) ?_
      refine JL_q (wants_none rfl) rfl (ex_assign rfl) ?_
      refine JL_nil ?_
      refine N_block ?_
      refine N_then ?_
      refine J_region ?_
      refine JL_q (wants_none rfl) rfl (ex_move rfl) ?_
      refine JL_q (wants_none rfl) rfl (ex_add rfl rfl) ?_
      refine JL_q (wants_none rfl) rfl (ex_assign rfl) ?_
      refine JL_nil ?_
      exact N_next' () ⟨rfl, rfl, rfl, trivial⟩ [0, 1] rfl rfl
    · refine J_exit ?_
      refine N_then_exit ?_
      exact N_break' () ⟨rfl, rfl, rfl, trivial⟩ [0, 1] rfl rfl
  · refine N_then ?_
    refine J_seq ?_
    refine J_region ?_
    refine JL_q (wants_none rfl) rfl (ex_move rfl) ?_
    refine JL_q (wants_none rfl) rfl (ex_assign rfl) ?_
    refine JL_nil ?_
    refine N_then ?_
    refine J_ret ?_
    exact N_ret1 rfl (rv_tmp rfl) (fun w hh => ⟨(), rfl, hh.sel [1, 0] rfl⟩)

end Go.Proofs.Ytceimgjcikkadaa
