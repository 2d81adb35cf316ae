/-
  Each function of the program computes what its plain function says: printed by program. No condition.
-/
import Derived.Test.YtfklpjdenigohaaFn
import Derived.Test.YtfklpjdenigohaaInf
import Derived.Test.YtfklpjdenigohaaCon1
import Derived.Test.YtfklpjdenigohaaCon2
import Derived.Test.YtfklpjdenigohaaCon7
namespace Go.Proofs.Ytfklpjdenigohaa
open Go Go.Tc Go.Fn
set_option linter.unusedVariables false

set_option maxHeartbeats 4000000 in
theorem c_spec_l16Fits (A : Nat → Prop) (w : World) (hA : ∀ k, A k → k < w.heap.size) (v0_ : Value) (p0 : GMachine) (hp0 : RdA A w.heap.size w v0_ p0) (r : Bool) (hr : F_spec_l16Fits p0 = some r) :
    Con Try.prog 212 [v0_] A w (fun x_ : Unit => .bool r) (fun x_ => []) := by
  refine Con_of (v := fun (r : Bool) (x_ : Unit) => .bool r) (fs := fun r x_ => []) Try.func212 rfl Try.ntmps212 rfl ((SH.start hA).start_pa' rfl hp0) rfl ?_ hr
  unfold F_spec_l16Fits
  refine J_seq ?_
  refine J_region ?_
  refine JL_q (wants_none rfl) rfl (ex_assign rfl) ?_
  refine JL_nil ?_
  refine N_then ?_
  refine J_seq ?_
  refine J_region ?_
  refine JL_q (wants_none rfl) rfl (ex_move rfl) ?_
  refine JL_bnd fun r1 hr2 => ?_
  refine JL_call (wants_none rfl) rfl Try.call169 rfl (Ca_of0 fun w hh => c_spec_l16Border _ w (fun _ hk => hk.elim) _ _ (hh.pa0 0 rfl) _ hr2) (fun _ => ?_)
  refine JL_q (wants_none rfl) rfl (ex_leq rfl rfl) ?_
  refine JL_q (wants_none rfl) rfl (ex_assign rfl) ?_
  refine JL_nil ?_
  refine N_then ?_
  refine J_ret ?_
  exact N_ret1 rfl (rv_tmp rfl) (fun w hh => ⟨(), rfl, hh.sel [] rfl⟩)

set_option maxHeartbeats 4000000 in
theorem c_spec_l16Rules (A : Nat → Prop) (w : World) (hA : ∀ k, A k → k < w.heap.size) (v0_ : Value) (p0 : GMachine) (hp0 : RdA A w.heap.size w v0_ p0) (r : (List GRewrite) × Bool) (hr : F_spec_l16Rules p0 = some r) :
    Con Try.prog 175 [v0_] A w (fun x_ : Value × List Nat => .tuple #[x_.1, .bool r.2]) (fun x_ => [.od 107 x_.1 r.1 x_.2]) := by
  refine Con_of (v := fun (r : (List GRewrite) × Bool) (x_ : Value × List Nat) => .tuple #[x_.1, .bool r.2]) (fs := fun r x_ => [.od 107 x_.1 r.1 x_.2]) Try.func175 rfl Try.ntmps175 rfl ((SH.start hA).start_pa' rfl hp0) rfl ?_ hr
  unfold F_spec_l16Rules
  refine J_seq ?_
  refine J_region ?_
  refine JL_q (wants_none rfl) rfl (ex_assign rfl) ?_
  refine JL_q (wants_none rfl) rfl (ex_assign rfl) ?_
  refine JL_nil ?_
  refine N_then ?_
  refine J_seq ?_
  refine J_region ?_
  refine JL_st (wants_none rfl) rfl (st_buildSlice_od (vs := []) (B := ([] : List Nat)) ([] : List GRewrite) [] Try.underlying54 ti_107 zi_107 rfl rfl rfl rfl rfl (fun w hh => dwv_nil)) (fun b1 => ?_)
  refine JL_q (wants_none rfl) rfl (ex_assign rfl) ?_
  refine JL_nil ?_
  refine N_then ?_
  refine J_seq ?_
  refine J_region ?_
  refine JL_q (wants_none rfl) rfl (ex_move rfl) ?_
  refine JL_bnd fun r2 hr3 => ?_
  refine JL_call (wants_none rfl) rfl Try.call169 rfl (Ca_of0 fun w hh => c_spec_l16Border _ w (fun _ hk => hk.elim) _ _ (hh.pa0 1 rfl) _ hr3) (fun _ => ?_)
  refine JL_q (wants_none rfl) rfl (ex_assign rfl) ?_
  refine JL_nil ?_
  refine N_then ?_
  refine J_seq ?_
  refine J_seq ?_
  refine J_region ?_
  refine JL_q (wants_none rfl) rfl (ex_assign rfl) ?_
  refine JL_nil ?_
  refine N_then ?_
  refine J_loop' (S := (List GRewrite) × Int) (G := Value × List Nat) (F_spec_l16Rules_L1 p0 r2) (fun s4 g5 => [(0, v0_), (4, g5.1), (5, .int .i64 r2), (6, .int .i64 s4.2)]) (fun s4 g5 => [.pa v0_ p0, .od 107 g5.1 s4.1 g5.2]) (([] : List GRewrite), 0) ((.slice (some ⟨b1, 0, none⟩) 0 0), ([] : List Nat)) ⟨rfl, rfl, rfl, rfl, trivial⟩ [1, 0] rfl rfl (fun s4 g5 => ?_) (fun s4 g5 => ?_)
  · obtain ⟨g5_0, g5_1⟩ := g5
    unfold F_spec_l16Rules_L1
    refine J_seq ?_
    refine J_seq ?_
    refine J_region ?_
    refine JL_q (wants_none rfl) rfl (ex_move rfl) ?_
    refine JL_q (wants_none rfl) rfl (ex_move rfl) ?_
    refine JL_q (wants_none rfl) rfl (ex_nilCheck_pa 0 rfl rfl) ?_
    refine JL_st (wants_none rfl) rfl (st_field_pa 0 (GMachine.at_Rules _) fi_39_2 rfl rfl rfl) (fun q6 => ?_)
    refine JL_st (wants_none rfl) rfl (st_load_pa_o 0 (opens_sl _) ti_37 rfl rfl) (fun v7 => ?_)
    refine JL_q (wants_none rfl) rfl (ex_len_rd 0 Try.underlying37 rfl rfl) ?_
    refine JL_q (wants_none rfl) rfl (ex_lss rfl rfl) ?_
    refine JL_nil ?_
    refine N_then ?_
    refine J_if rfl (fun h8 => ?_) (fun h8 => ?_)
    · refine J_skip ?_
      refine N_then ?_
      refine J_seq ?_
      refine J_block ?_
      refine J_seq ?_
      refine J_region ?_
      refine JL_q (wants_none rfl) rfl (ex_move rfl) ?_
      refine JL_q (wants_none rfl) rfl (ex_nilCheck_pa 2 rfl rfl) ?_
      refine JL_st (wants_none rfl) rfl (st_field_pa 2 (GMachine.at_Rules _) fi_39_2 rfl rfl rfl) (fun q9 => ?_)
      refine JL_st (wants_none rfl) rfl (st_load_pa_o 0 (opens_sl _) ti_37 rfl rfl) (fun v10 => ?_)
      refine JL_q (wants_none rfl) rfl (ex_move rfl) ?_
      refine JL_bnd fun y11 hy12 => ?_
      refine JL_st (wants_none rfl) rfl (st_index 0 Try.underlying37 ti_161 rfl rfl rfl hy12) (fun q13 => ?_)
      refine JL_st (wants_none rfl) rfl (st_load_pt_o 0 (GRule.opens _) ti_161 rfl rfl) (fun _ => ?_)
      refine JL_st (wants_none rfl) rfl (st_alloc zi_161 rfl) (fun b15 => ?_)
      refine JL_sk (wants_none rfl) (sk_store_bx' 0 ti_161 rfl rfl (fun w hh => (cv_aggs ⟨cv_int, cv_int, cv_int, trivial⟩)) rfl rfl rfl rfl) ?_
      refine JL_nil ?_
      refine N_then ?_
      refine J_seq ?_
      refine J_seq ?_
      refine J_draw [] (by kernel_rfl) ?_
      refine JP_take (i := 0) [0, 1, 2, 3, 4, 5, 6, 7] [] rfl (by kernel_rfl) (by kernel_rfl) (by kernel_rfl) rfl rfl (wants_none rfl) rfl (ex_load_bx_agg 0 ti_161 rfl rfl rfl rfl) ?_
      refine JP_go [0, 1, 2, 3, 4, 5, 6, 7] [] rfl rfl rfl (fun w17 h1_18 hp16 => ?_)
      refine JD_bnd fun r19 hr20 => ?_
      refine JD_one (i := 1) (by kernel_rfl) ?_
      refine JO_call rfl (wants_none rfl) rfl Try.call176 rfl (Ca_of0 fun w hh => c_spec_l05None _ w (fun _ hk => hk.elim)  _ hr20) (fun _ => ?_)
      refine JD_take (i := 2) hp16 rfl (by kernel_rfl) (by kernel_rfl) (by kernel_rfl) (wants_none rfl) rfl (ex_eql_seq_161 rfl rfl) ?_
      refine JD_done (by kernel_rfl) ?_
      refine N_then ?_
      refine J_if rfl (fun h21 => ?_) (fun h21 => ?_)
      · refine J_exit ?_
        refine N_then_exit ?_
        refine N_block_exit ?_
        refine N_then ?_
        refine J_region ?_
        refine JL_q (wants_none rfl) rfl (ex_move rfl) ?_
        refine JL_q (wants_none rfl) rfl (ex_add rfl rfl) ?_
        refine JL_q (wants_none rfl) rfl (ex_assign rfl) ?_
        refine JL_nil ?_
        exact N_next' (g5_0, g5_1) ⟨rfl, rfl, rfl, rfl, trivial⟩ [6, 7] rfl rfl
      · refine J_skip ?_
        refine N_then ?_
        refine J_seq ?_
        refine J_draw [] (by kernel_rfl) ?_
        refine JP_take (i := 0) [0, 1, 2, 3, 4, 5, 6, 7] [] rfl (by kernel_rfl) (by kernel_rfl) (by kernel_rfl) rfl rfl (wants_none rfl) rfl (ex_move rfl) ?_
        refine JP_take (i := 1) [0, 1, 2, 3, 4, 5, 6, 7] [] rfl (by kernel_rfl) (by kernel_rfl) (by kernel_rfl) rfl rfl (wants_none rfl) rfl (ex_nilCheck_pa 6 rfl rfl) ?_
        refine JP_sq (i := 2) [] rfl (by kernel_rfl) (by kernel_rfl) (by kernel_rfl) rfl (wants_none rfl) rfl (sq_field_pa 6 (GMachine.at_Symbols _) fi_39_0 rfl rfl rfl) (fun q22 => ?_)
        refine JP_sq (i := 3) [] rfl (by kernel_rfl) (by kernel_rfl) (by kernel_rfl) rfl (wants_none rfl) rfl (sq_load_pa_o 0 (opens_int _) ti_2 rfl rfl) (fun _ => ?_)
        refine JP_take (i := 4) [0, 1, 2, 3, 4, 5, 6, 7, 8] [] rfl (by kernel_rfl) (by kernel_rfl) (by kernel_rfl) rfl rfl (wants_none rfl) rfl (ex_move rfl) ?_
        refine JP_take (i := 5) [0, 1, 2, 3, 4, 5, 6, 7, 8] [] rfl (by kernel_rfl) (by kernel_rfl) (by kernel_rfl) rfl rfl (wants_none rfl) rfl (ex_move rfl) ?_
        refine JP_take (i := 6) [0, 1, 2, 3, 4, 5, 6, 7, 8] [] rfl (by kernel_rfl) (by kernel_rfl) (by kernel_rfl) rfl rfl (wants_none rfl) rfl (ex_nilCheck_pa 7 rfl rfl) ?_
        refine JP_sq (i := 7) [] rfl (by kernel_rfl) (by kernel_rfl) (by kernel_rfl) rfl (wants_none rfl) rfl (sq_field_pa 7 (GMachine.at_Symbols _) fi_39_0 rfl rfl rfl) (fun q24 => ?_)
        refine JP_sq (i := 8) [] rfl (by kernel_rfl) (by kernel_rfl) (by kernel_rfl) rfl (wants_none rfl) rfl (sq_load_pa_o 0 (opens_int _) ti_2 rfl rfl) (fun _ => ?_)
        refine JP_bnd fun u26 hu27 => ?_
        refine JP_take (i := 9) [0, 1, 2, 3, 4, 5, 6, 7, 8, 9] [] rfl (by kernel_rfl) (by kernel_rfl) (by kernel_rfl) rfl rfl (wants_none rfl) rfl (ex_quo rfl rfl (nz_ne hu27)) ?_
        refine JP_take (i := 10) [0, 1, 2, 3, 4, 5, 6, 7, 8, 9] [] rfl (by kernel_rfl) (by kernel_rfl) (by kernel_rfl) rfl rfl (wants_none rfl) rfl (ex_add rfl rfl) ?_
        refine JP_take (i := 11) [0, 1, 2, 3, 4, 5, 6, 7, 8, 9] [] rfl (by kernel_rfl) (by kernel_rfl) (by kernel_rfl) rfl rfl (wants_none rfl) rfl (ex_assign rfl) ?_
        refine JP_go [] [] rfl rfl rfl (fun _ _ _ => ?_)
        refine JD_done (by kernel_rfl) ?_
        refine N_then ?_
        refine J_seq ?_
        refine J_region ?_
        refine JL_q (wants_none rfl) rfl (ex_move rfl) ?_
        refine JL_q (wants_none rfl) rfl (ex_move rfl) ?_
        refine JL_q (wants_none rfl) rfl (ex_nilCheck_pa 8 rfl rfl) ?_
        refine JL_st (wants_none rfl) rfl (st_field_pa 8 (GMachine.at_Symbols _) fi_39_0 rfl rfl rfl) (fun q28 => ?_)
        refine JL_st (wants_none rfl) rfl (st_load_pa_o 0 (opens_int _) ti_2 rfl rfl) (fun _ => ?_)
        refine JL_bnd fun u30 hu31 => ?_
        refine JL_q (wants_none rfl) rfl (ex_rem rfl rfl (nz_ne hu31)) ?_
        refine JL_q (wants_none rfl) rfl (ex_assign rfl) ?_
        refine JL_nil ?_
        refine N_then ?_
        refine J_seq ?_
        refine J_draw [] (by kernel_rfl) ?_
        refine JP_take (i := 0) [0, 1, 2, 3, 4, 5, 6, 7, 8, 9, 10] [] rfl (by kernel_rfl) (by kernel_rfl) (by kernel_rfl) rfl rfl (wants_none rfl) rfl (ex_move rfl) ?_
        refine JP_take (i := 1) [0, 1, 2, 3, 4, 5, 6, 7, 8, 9, 10] [] rfl (by kernel_rfl) (by kernel_rfl) (by kernel_rfl) rfl rfl (wants_none rfl) rfl (ex_nilCheck_pa 9 rfl rfl) ?_
        refine JP_sq (i := 2) [] rfl (by kernel_rfl) (by kernel_rfl) (by kernel_rfl) rfl (wants_none rfl) rfl (sq_field_pa 9 (GMachine.at_Symbols _) fi_39_0 rfl rfl rfl) (fun q32 => ?_)
        refine JP_sq (i := 3) [] rfl (by kernel_rfl) (by kernel_rfl) (by kernel_rfl) rfl (wants_none rfl) rfl (sq_load_pa_o 0 (opens_int _) ti_2 rfl rfl) (fun _ => ?_)
        refine JP_take (i := 4) [0, 1, 2, 3, 4, 5, 6, 7, 8, 9, 10, 11] [] rfl (by kernel_rfl) (by kernel_rfl) (by kernel_rfl) rfl rfl (wants_none rfl) rfl (ex_fieldAddr fi_161_2 rfl rfl) ?_
        refine JP_take (i := 5) [0, 1, 2, 3, 4, 5, 6, 7, 8, 9, 10, 11] [] rfl (by kernel_rfl) (by kernel_rfl) (by kernel_rfl) rfl rfl (wants_none rfl) rfl (ex_load_bx 4 ti_2 rfl rfl rfl) ?_
        refine JP_take (i := 6) [0, 1, 2, 3, 4, 5, 6, 7, 8, 9, 10, 11] [] rfl (by kernel_rfl) (by kernel_rfl) (by kernel_rfl) rfl rfl (wants_none rfl) rfl (ex_add rfl rfl) ?_
        refine JP_take (i := 7) [0, 1, 2, 3, 4, 5, 6, 7, 8, 9, 10, 11] [] rfl (by kernel_rfl) (by kernel_rfl) (by kernel_rfl) rfl rfl (wants_none rfl) rfl (ex_assign rfl) ?_
        refine JP_go [] [] rfl rfl rfl (fun _ _ _ => ?_)
        refine JD_done (by kernel_rfl) ?_
        refine N_then ?_
        refine J_seq ?_
        refine J_region ?_
        refine JL_q (wants_none rfl) rfl (ex_fieldAddr fi_161_0 rfl rfl) ?_
        refine JL_q (wants_none rfl) rfl (ex_load_bx 4 ti_2 rfl rfl rfl) ?_
        refine JL_q (wants_none rfl) rfl (ex_assign rfl) ?_
        refine JL_nil ?_
        refine N_then ?_
        refine J_seq ?_
        refine J_seq ?_
        refine J_region ?_
        refine JL_q (wants_none rfl) rfl (ex_fieldAddr fi_161_1 rfl rfl) ?_
        refine JL_q (wants_none rfl) rfl (ex_load_bx 4 ti_2 rfl rfl rfl) ?_
        refine JL_q (wants_none rfl) rfl (ex_eql rfl rfl) ?_
        refine JL_nil ?_
        refine N_then ?_
        refine J_if rfl (fun h34 => ?_) (fun h34 => ?_)
        · refine J_seq ?_
          refine J_region ?_
          refine JL_q (wants_none rfl) rfl (ex_move rfl) ?_
          refine JL_q (wants_none rfl) rfl (ex_move rfl) ?_
          refine JL_q (wants_none rfl) rfl (ex_move rfl) ?_
          refine JL_st (wants_none rfl) rfl (st_buildSlice (vs := [.int .i64 (w64 (p0.Symbols + (w64 (Int.tdiv s4.2 p0.Symbols)))), .int .i64 (Int.tmod s4.2 p0.Symbols)]) ([(w64 (p0.Symbols + (w64 (Int.tdiv s4.2 p0.Symbols)))), (Int.tmod s4.2 p0.Symbols)] : List Int) Try.underlying31 ti_2 zi_2 rfl rfl rfl (fun w hh => ⟨(Rd.mk_int _ _ _), (Rd.mk_int _ _ _), trivial⟩)) (fun b35 => ?_)
          refine JL_q (wants_none rfl) rfl (ex_move rfl) ?_
          refine JL_q (wants_none rfl) rfl (ex_move rfl) ?_
          refine JL_st (wants_none rfl) rfl (st_buildSlice (vs := [.int .i64 y11.Write, .int .i64 (w64 (p0.Symbols + y11.Next))]) ([y11.Write, (w64 (p0.Symbols + y11.Next))] : List Int) Try.underlying31 ti_2 zi_2 rfl rfl rfl (fun w hh => ⟨(Rd.mk_int _ _ _), (Rd.mk_int _ _ _), trivial⟩)) (fun b36 => ?_)
          refine JL_q (wants_none rfl) rfl (ex_build si_107 rfl (.cons fi_107_0 rfl rfl (.cons fi_107_1 rfl rfl .nil)) (fun w hh => ⟨(hh.cv_ow 1 rfl), (hh.cv_ow 0 rfl), trivial⟩)) ?_
          refine JL_ctx (fun w hh => hh.tokf 1 rfl rfl) ?_
          refine JL_ctx (fun w hh => hh.tokf 1 rfl rfl) ?_
          refine JL_st (wants_none rfl) rfl (st_buildSlice_od (vs := [.agg #[(.slice (some ⟨b35, 0, none⟩) 2 2), (.slice (some ⟨b36, 0, none⟩) 2 2)]]) (B := ((((.slice (some ⟨b35, 0, none⟩) 2 2) : Value).ownBlock.toList ++ []) ++ ((((.slice (some ⟨b36, 0, none⟩) 2 2) : Value).ownBlock.toList ++ []) ++ []))) ([(⟨([(w64 (p0.Symbols + (w64 (Int.tdiv s4.2 p0.Symbols)))), (Int.tmod s4.2 p0.Symbols)] : List Int), ([y11.Write, (w64 (p0.Symbols + y11.Next))] : List Int)⟩ : GRewrite)] : List GRewrite) [1, 0] Try.underlying54 ti_107 zi_107 rfl rfl rfl rfl rfl (fun w hh => (dwv_cons (GRewrite.dw (hh.dw 1 rfl) (hh.dw 0 rfl)) dwv_nil))) (fun b37 => ?_)
          refine JL_bnd fun z38 hz39 => ?_
          refine JL_st (wants_none rfl) rfl (st_append_od 16 0 Try.underlying54 ti_107 zi_107 rfl bi_107 rfl rfl rfl rfl rfl rfl hz39) (fun v40 => ?_)
          refine JL_q (wants_none rfl) rfl (ex_assign rfl) ?_
          refine JL_nil ?_
          refine N_then ?_
          refine J_seq ?_
          refine J_cut' (S' := (List GRewrite)) (G' := Value × List Nat) (fun s41 g42 => [(0, v0_), (4, g42.1), (5, .int .i64 r2), (6, .int .i64 s4.2)]) (fun s41 g42 => [.pa v0_ p0, .od 107 g42.1 s41 g42.2]) ?_ (fun s41 g42 => ?_)
          · refine J_seq ?_
            refine J_region ?_
            refine JL_q (wants_none rfl) rfl (ex_move rfl) ?_
            refine JL_q (wants_none rfl) rfl (ex_eql rfl rfl) ?_
            refine JL_nil ?_
            refine N_then ?_
            refine J_if rfl (fun h43 => ?_) (fun h43 => ?_)
            · refine J_region ?_
              refine JL_q (wants_none rfl) rfl (ex_move rfl) ?_
              refine JL_q (wants_none rfl) rfl (ex_move rfl) ?_
              refine JL_q (wants_none rfl) rfl (ex_move rfl) ?_
              refine JL_st (wants_none rfl) rfl (st_buildSlice (vs := [.int .i64 (w64 (p0.Symbols + (w64 (Int.tdiv s4.2 p0.Symbols)))), .int .i64 r2]) ([(w64 (p0.Symbols + (w64 (Int.tdiv s4.2 p0.Symbols)))), r2] : List Int) Try.underlying31 ti_2 zi_2 rfl rfl rfl (fun w hh => ⟨(Rd.mk_int _ _ _), (Rd.mk_int _ _ _), trivial⟩)) (fun b44 => ?_)
              refine JL_q (wants_none rfl) rfl (ex_move rfl) ?_
              refine JL_q (wants_none rfl) rfl (ex_move rfl) ?_
              refine JL_q (wants_none rfl) rfl (ex_move rfl) ?_
              refine JL_st (wants_none rfl) rfl (st_buildSlice (vs := [.int .i64 y11.Write, .int .i64 (w64 (p0.Symbols + y11.Next)), .int .i64 r2]) ([y11.Write, (w64 (p0.Symbols + y11.Next)), r2] : List Int) Try.underlying31 ti_2 zi_2 rfl rfl rfl (fun w hh => ⟨(Rd.mk_int _ _ _), (Rd.mk_int _ _ _), (Rd.mk_int _ _ _), trivial⟩)) (fun b45 => ?_)
              refine JL_q (wants_none rfl) rfl (ex_build si_107 rfl (.cons fi_107_0 rfl rfl (.cons fi_107_1 rfl rfl .nil)) (fun w hh => ⟨(hh.cv_ow 1 rfl), (hh.cv_ow 0 rfl), trivial⟩)) ?_
              refine JL_ctx (fun w hh => hh.tokf 1 rfl rfl) ?_
              refine JL_ctx (fun w hh => hh.tokf 1 rfl rfl) ?_
              refine JL_st (wants_none rfl) rfl (st_buildSlice_od (vs := [.agg #[(.slice (some ⟨b44, 0, none⟩) 2 2), (.slice (some ⟨b45, 0, none⟩) 3 3)]]) (B := ((((.slice (some ⟨b44, 0, none⟩) 2 2) : Value).ownBlock.toList ++ []) ++ ((((.slice (some ⟨b45, 0, none⟩) 3 3) : Value).ownBlock.toList ++ []) ++ []))) ([(⟨([(w64 (p0.Symbols + (w64 (Int.tdiv s4.2 p0.Symbols)))), r2] : List Int), ([y11.Write, (w64 (p0.Symbols + y11.Next)), r2] : List Int)⟩ : GRewrite)] : List GRewrite) [1, 0] Try.underlying54 ti_107 zi_107 rfl rfl rfl rfl rfl (fun w hh => (dwv_cons (GRewrite.dw (hh.dw 1 rfl) (hh.dw 0 rfl)) dwv_nil))) (fun b46 => ?_)
              refine JL_bnd fun z47 hz48 => ?_
              refine JL_st (wants_none rfl) rfl (st_append_od 21 0 Try.underlying54 ti_107 zi_107 rfl bi_107 rfl rfl rfl rfl rfl rfl hz48) (fun v49 => ?_)
              refine JL_q (wants_none rfl) rfl (ex_assign rfl) ?_
              refine JL_nil ?_
              exact N_meet' (v49, ((g5_1 ++ ((((.slice (some ⟨b35, 0, none⟩) 2 2) : Value).ownBlock.toList ++ []) ++ ((((.slice (some ⟨b36, 0, none⟩) 2 2) : Value).ownBlock.toList ++ []) ++ []))) ++ ((((.slice (some ⟨b44, 0, none⟩) 2 2) : Value).ownBlock.toList ++ []) ++ ((((.slice (some ⟨b45, 0, none⟩) 3 3) : Value).ownBlock.toList ++ []) ++ [])))) ⟨rfl, rfl, rfl, rfl, trivial⟩ [20, 21] rfl rfl
            · refine J_skip ?_
              exact N_meet' (v40, (g5_1 ++ ((((.slice (some ⟨b35, 0, none⟩) 2 2) : Value).ownBlock.toList ++ []) ++ ((((.slice (some ⟨b36, 0, none⟩) 2 2) : Value).ownBlock.toList ++ []) ++ [])))) ⟨rfl, rfl, rfl, rfl, trivial⟩ [15, 16] rfl rfl
          · obtain ⟨g42_0, g42_1⟩ := g42
            refine N_then ?_
            refine J_exit ?_
            refine N_then_exit ?_
            refine N_block_exit ?_
            refine N_then ?_
            refine J_region ?_
            refine JL_q (wants_none rfl) rfl (ex_move rfl) ?_
            refine JL_q (wants_none rfl) rfl (ex_add rfl rfl) ?_
            refine JL_q (wants_none rfl) rfl (ex_assign rfl) ?_
            refine JL_nil ?_
            exact N_next' (g42_0, g42_1) ⟨rfl, rfl, rfl, rfl, trivial⟩ [0, 1] rfl rfl
        · refine J_skip ?_
          refine N_then ?_
          refine J_seq ?_
          refine J_seq ?_
          refine J_region ?_
          refine JL_q (wants_none rfl) rfl (ex_assign rfl) ?_
          refine JL_nil ?_
          refine N_then ?_
          refine J_loop' (S := (List GRewrite) × Int) (G := Value × List Nat) (F_spec_l16Rules_L2 p0 s4 y11) (fun s50 g51 => [(0, v0_), (4, g51.1), (5, .int .i64 r2), (6, .int .i64 s4.2), (8, .int .i64 (w64 (p0.Symbols + (w64 (Int.tdiv s4.2 p0.Symbols))))), (9, .int .i64 (Int.tmod s4.2 p0.Symbols)), (10, .int .i64 (w64 (p0.Symbols + y11.Next))), (11, .int .i64 y11.Write), (12, .int .i64 s50.2)]) (fun s50 g51 => [.pa v0_ p0, .od 107 g51.1 s50.1 g51.2]) (s4.1, 0) (g5_0, g5_1) ⟨rfl, rfl, rfl, rfl, rfl, rfl, rfl, rfl, rfl, trivial⟩ [10, 11] rfl rfl (fun s50 g51 => ?_) (fun s50 g51 => ?_)
          · obtain ⟨g51_0, g51_1⟩ := g51
            unfold F_spec_l16Rules_L2
            refine J_seq ?_
            refine J_seq ?_
            refine J_region ?_
            refine JL_q (wants_none rfl) rfl (ex_move rfl) ?_
            refine JL_q (wants_none rfl) rfl (ex_move rfl) ?_
            refine JL_q (wants_none rfl) rfl (ex_nilCheck_pa 0 rfl rfl) ?_
            refine JL_st (wants_none rfl) rfl (st_field_pa 0 (GMachine.at_Symbols _) fi_39_0 rfl rfl rfl) (fun q52 => ?_)
            refine JL_st (wants_none rfl) rfl (st_load_pa_o 0 (opens_int _) ti_2 rfl rfl) (fun _ => ?_)
            refine JL_q (wants_none rfl) rfl (ex_lss rfl rfl) ?_
            refine JL_nil ?_
            refine N_then ?_
            refine J_if rfl (fun h54 => ?_) (fun h54 => ?_)
            · refine J_skip ?_
              refine N_then ?_
              refine J_seq ?_
              refine J_block ?_
              refine J_region ?_
              refine JL_q (wants_none rfl) rfl (ex_move rfl) ?_
              refine JL_q (wants_none rfl) rfl (ex_move rfl) ?_
              refine JL_q (wants_none rfl) rfl (ex_move rfl) ?_
              refine JL_q (wants_none rfl) rfl (ex_move rfl) ?_
              refine JL_st (wants_none rfl) rfl (st_buildSlice (vs := [.int .i64 s50.2, .int .i64 (w64 (p0.Symbols + (w64 (Int.tdiv s4.2 p0.Symbols)))), .int .i64 (Int.tmod s4.2 p0.Symbols)]) ([s50.2, (w64 (p0.Symbols + (w64 (Int.tdiv s4.2 p0.Symbols)))), (Int.tmod s4.2 p0.Symbols)] : List Int) Try.underlying31 ti_2 zi_2 rfl rfl rfl (fun w hh => ⟨(Rd.mk_int _ _ _), (Rd.mk_int _ _ _), (Rd.mk_int _ _ _), trivial⟩)) (fun b55 => ?_)
              refine JL_q (wants_none rfl) rfl (ex_move rfl) ?_
              refine JL_q (wants_none rfl) rfl (ex_move rfl) ?_
              refine JL_q (wants_none rfl) rfl (ex_move rfl) ?_
              refine JL_st (wants_none rfl) rfl (st_buildSlice (vs := [.int .i64 (w64 (p0.Symbols + y11.Next)), .int .i64 s50.2, .int .i64 y11.Write]) ([(w64 (p0.Symbols + y11.Next)), s50.2, y11.Write] : List Int) Try.underlying31 ti_2 zi_2 rfl rfl rfl (fun w hh => ⟨(Rd.mk_int _ _ _), (Rd.mk_int _ _ _), (Rd.mk_int _ _ _), trivial⟩)) (fun b56 => ?_)
              refine JL_q (wants_none rfl) rfl (ex_build si_107 rfl (.cons fi_107_0 rfl rfl (.cons fi_107_1 rfl rfl .nil)) (fun w hh => ⟨(hh.cv_ow 1 rfl), (hh.cv_ow 0 rfl), trivial⟩)) ?_
              refine JL_ctx (fun w hh => hh.tokf 1 rfl rfl) ?_
              refine JL_ctx (fun w hh => hh.tokf 1 rfl rfl) ?_
              refine JL_st (wants_none rfl) rfl (st_buildSlice_od (vs := [.agg #[(.slice (some ⟨b55, 0, none⟩) 3 3), (.slice (some ⟨b56, 0, none⟩) 3 3)]]) (B := ((((.slice (some ⟨b55, 0, none⟩) 3 3) : Value).ownBlock.toList ++ []) ++ ((((.slice (some ⟨b56, 0, none⟩) 3 3) : Value).ownBlock.toList ++ []) ++ []))) ([(⟨([s50.2, (w64 (p0.Symbols + (w64 (Int.tdiv s4.2 p0.Symbols)))), (Int.tmod s4.2 p0.Symbols)] : List Int), ([(w64 (p0.Symbols + y11.Next)), s50.2, y11.Write] : List Int)⟩ : GRewrite)] : List GRewrite) [1, 0] Try.underlying54 ti_107 zi_107 rfl rfl rfl rfl rfl (fun w hh => (dwv_cons (GRewrite.dw (hh.dw 1 rfl) (hh.dw 0 rfl)) dwv_nil))) (fun b57 => ?_)
              refine JL_bnd fun z58 hz59 => ?_
              refine JL_st (wants_none rfl) rfl (st_append_od 7 0 Try.underlying54 ti_107 zi_107 rfl bi_107 rfl rfl rfl rfl rfl rfl hz59) (fun v60 => ?_)
              refine JL_q (wants_none rfl) rfl (ex_assign rfl) ?_
              refine JL_nil ?_
              refine N_block ?_
              refine N_then ?_
              refine J_region ?_
              refine JL_q (wants_none rfl) rfl (ex_move rfl) ?_
              refine JL_q (wants_none rfl) rfl (ex_add rfl rfl) ?_
              refine JL_q (wants_none rfl) rfl (ex_assign rfl) ?_
              refine JL_nil ?_
              exact N_next' (v60, (g51_1 ++ ((((.slice (some ⟨b55, 0, none⟩) 3 3) : Value).ownBlock.toList ++ []) ++ ((((.slice (some ⟨b56, 0, none⟩) 3 3) : Value).ownBlock.toList ++ []) ++ [])))) ⟨rfl, rfl, rfl, rfl, rfl, rfl, rfl, rfl, rfl, trivial⟩ [6, 7] rfl rfl
            · refine J_exit ?_
              refine N_then_exit ?_
              exact N_break' (g51_0, g51_1) ⟨rfl, rfl, rfl, rfl, rfl, rfl, rfl, rfl, rfl, trivial⟩ [1, 2] rfl rfl
          · obtain ⟨g51_0, g51_1⟩ := g51
            refine N_then ?_
            refine J_seq ?_
            refine J_region ?_
            refine JL_q (wants_none rfl) rfl (ex_move rfl) ?_
            refine JL_q (wants_none rfl) rfl (ex_move rfl) ?_
            refine JL_q (wants_none rfl) rfl (ex_move rfl) ?_
            refine JL_q (wants_none rfl) rfl (ex_move rfl) ?_
            refine JL_st (wants_none rfl) rfl (st_buildSlice (vs := [.int .i64 r2, .int .i64 (w64 (p0.Symbols + (w64 (Int.tdiv s4.2 p0.Symbols)))), .int .i64 (Int.tmod s4.2 p0.Symbols)]) ([r2, (w64 (p0.Symbols + (w64 (Int.tdiv s4.2 p0.Symbols)))), (Int.tmod s4.2 p0.Symbols)] : List Int) Try.underlying31 ti_2 zi_2 rfl rfl rfl (fun w hh => ⟨(Rd.mk_int _ _ _), (Rd.mk_int _ _ _), (Rd.mk_int _ _ _), trivial⟩)) (fun b61 => ?_)
            refine JL_q (wants_none rfl) rfl (ex_move rfl) ?_
            refine JL_q (wants_none rfl) rfl (ex_move rfl) ?_
            refine JL_q (wants_none rfl) rfl (ex_move rfl) ?_
            refine JL_st (wants_none rfl) rfl (st_buildSlice (vs := [.int .i64 r2, .int .i64 (w64 (p0.Symbols + y11.Next)), .int .i64 0, .int .i64 y11.Write]) ([r2, (w64 (p0.Symbols + y11.Next)), 0, y11.Write] : List Int) Try.underlying31 ti_2 zi_2 rfl rfl rfl (fun w hh => ⟨(Rd.mk_int _ _ _), (Rd.mk_int _ _ _), (Rd.mk_int _ _ _), (Rd.mk_int _ _ _), trivial⟩)) (fun b62 => ?_)
            refine JL_q (wants_none rfl) rfl (ex_build si_107 rfl (.cons fi_107_0 rfl rfl (.cons fi_107_1 rfl rfl .nil)) (fun w hh => ⟨(hh.cv_ow 1 rfl), (hh.cv_ow 0 rfl), trivial⟩)) ?_
            refine JL_ctx (fun w hh => hh.tokf 1 rfl rfl) ?_
            refine JL_ctx (fun w hh => hh.tokf 1 rfl rfl) ?_
            refine JL_st (wants_none rfl) rfl (st_buildSlice_od (vs := [.agg #[(.slice (some ⟨b61, 0, none⟩) 3 3), (.slice (some ⟨b62, 0, none⟩) 4 4)]]) (B := ((((.slice (some ⟨b61, 0, none⟩) 3 3) : Value).ownBlock.toList ++ []) ++ ((((.slice (some ⟨b62, 0, none⟩) 4 4) : Value).ownBlock.toList ++ []) ++ []))) ([(⟨([r2, (w64 (p0.Symbols + (w64 (Int.tdiv s4.2 p0.Symbols)))), (Int.tmod s4.2 p0.Symbols)] : List Int), ([r2, (w64 (p0.Symbols + y11.Next)), 0, y11.Write] : List Int)⟩ : GRewrite)] : List GRewrite) [1, 0] Try.underlying54 ti_107 zi_107 rfl rfl rfl rfl rfl (fun w hh => (dwv_cons (GRewrite.dw (hh.dw 1 rfl) (hh.dw 0 rfl)) dwv_nil))) (fun b63 => ?_)
            refine JL_bnd fun z64 hz65 => ?_
            refine JL_st (wants_none rfl) rfl (st_append_od 6 0 Try.underlying54 ti_107 zi_107 rfl bi_107 rfl rfl rfl rfl rfl rfl hz65) (fun v66 => ?_)
            refine JL_q (wants_none rfl) rfl (ex_assign rfl) ?_
            refine JL_nil ?_
            refine N_then ?_
            refine J_seq ?_
            refine J_region ?_
            refine JL_q (wants_none rfl) rfl (ex_move rfl) ?_
            refine JL_q (wants_none rfl) rfl (ex_eql rfl rfl) ?_
            refine JL_nil ?_
            refine N_then ?_
            refine J_if rfl (fun h67 => ?_) (fun h67 => ?_)
            · refine J_seq ?_
              refine J_seq ?_
              refine J_region ?_
              refine JL_q (wants_none rfl) rfl (ex_assign rfl) ?_
              refine JL_nil ?_
              refine N_then ?_
              refine J_loop' (S := (List GRewrite) × Int) (G := Value × List Nat) (F_spec_l16Rules_L3 p0 r2 s4 y11) (fun s68 g69 => [(0, v0_), (4, g69.1), (5, .int .i64 r2), (6, .int .i64 s4.2), (8, .int .i64 (w64 (p0.Symbols + (w64 (Int.tdiv s4.2 p0.Symbols))))), (10, .int .i64 (w64 (p0.Symbols + y11.Next))), (11, .int .i64 y11.Write), (13, .int .i64 s68.2)]) (fun s68 g69 => [.pa v0_ p0, .od 107 g69.1 s68.1 g69.2]) (z64, 0) (v66, (g51_1 ++ ((((.slice (some ⟨b61, 0, none⟩) 3 3) : Value).ownBlock.toList ++ []) ++ ((((.slice (some ⟨b62, 0, none⟩) 4 4) : Value).ownBlock.toList ++ []) ++ [])))) ⟨rfl, rfl, rfl, rfl, rfl, rfl, rfl, rfl, trivial⟩ [5, 6] rfl rfl (fun s68 g69 => ?_) (fun s68 g69 => ?_)
              · obtain ⟨g69_0, g69_1⟩ := g69
                unfold F_spec_l16Rules_L3
                refine J_seq ?_
                refine J_seq ?_
                refine J_region ?_
                refine JL_q (wants_none rfl) rfl (ex_move rfl) ?_
                refine JL_q (wants_none rfl) rfl (ex_move rfl) ?_
                refine JL_q (wants_none rfl) rfl (ex_nilCheck_pa 0 rfl rfl) ?_
                refine JL_st (wants_none rfl) rfl (st_field_pa 0 (GMachine.at_Symbols _) fi_39_0 rfl rfl rfl) (fun q70 => ?_)
                refine JL_st (wants_none rfl) rfl (st_load_pa_o 0 (opens_int _) ti_2 rfl rfl) (fun _ => ?_)
                refine JL_q (wants_none rfl) rfl (ex_lss rfl rfl) ?_
                refine JL_nil ?_
                refine N_then ?_
                refine J_if rfl (fun h72 => ?_) (fun h72 => ?_)
                · refine J_skip ?_
                  refine N_then ?_
                  refine J_seq ?_
                  refine J_block ?_
                  refine J_region ?_
                  refine JL_q (wants_none rfl) rfl (ex_move rfl) ?_
                  refine JL_q (wants_none rfl) rfl (ex_move rfl) ?_
                  refine JL_q (wants_none rfl) rfl (ex_move rfl) ?_
                  refine JL_q (wants_none rfl) rfl (ex_move rfl) ?_
                  refine JL_st (wants_none rfl) rfl (st_buildSlice (vs := [.int .i64 s68.2, .int .i64 (w64 (p0.Symbols + (w64 (Int.tdiv s4.2 p0.Symbols)))), .int .i64 r2]) ([s68.2, (w64 (p0.Symbols + (w64 (Int.tdiv s4.2 p0.Symbols)))), r2] : List Int) Try.underlying31 ti_2 zi_2 rfl rfl rfl (fun w hh => ⟨(Rd.mk_int _ _ _), (Rd.mk_int _ _ _), (Rd.mk_int _ _ _), trivial⟩)) (fun b73 => ?_)
                  refine JL_q (wants_none rfl) rfl (ex_move rfl) ?_
                  refine JL_q (wants_none rfl) rfl (ex_move rfl) ?_
                  refine JL_q (wants_none rfl) rfl (ex_move rfl) ?_
                  refine JL_q (wants_none rfl) rfl (ex_move rfl) ?_
                  refine JL_st (wants_none rfl) rfl (st_buildSlice (vs := [.int .i64 (w64 (p0.Symbols + y11.Next)), .int .i64 s68.2, .int .i64 y11.Write, .int .i64 r2]) ([(w64 (p0.Symbols + y11.Next)), s68.2, y11.Write, r2] : List Int) Try.underlying31 ti_2 zi_2 rfl rfl rfl (fun w hh => ⟨(Rd.mk_int _ _ _), (Rd.mk_int _ _ _), (Rd.mk_int _ _ _), (Rd.mk_int _ _ _), trivial⟩)) (fun b74 => ?_)
                  refine JL_q (wants_none rfl) rfl (ex_build si_107 rfl (.cons fi_107_0 rfl rfl (.cons fi_107_1 rfl rfl .nil)) (fun w hh => ⟨(hh.cv_ow 1 rfl), (hh.cv_ow 0 rfl), trivial⟩)) ?_
                  refine JL_ctx (fun w hh => hh.tokf 1 rfl rfl) ?_
                  refine JL_ctx (fun w hh => hh.tokf 1 rfl rfl) ?_
                  refine JL_st (wants_none rfl) rfl (st_buildSlice_od (vs := [.agg #[(.slice (some ⟨b73, 0, none⟩) 3 3), (.slice (some ⟨b74, 0, none⟩) 4 4)]]) (B := ((((.slice (some ⟨b73, 0, none⟩) 3 3) : Value).ownBlock.toList ++ []) ++ ((((.slice (some ⟨b74, 0, none⟩) 4 4) : Value).ownBlock.toList ++ []) ++ []))) ([(⟨([s68.2, (w64 (p0.Symbols + (w64 (Int.tdiv s4.2 p0.Symbols)))), r2] : List Int), ([(w64 (p0.Symbols + y11.Next)), s68.2, y11.Write, r2] : List Int)⟩ : GRewrite)] : List GRewrite) [1, 0] Try.underlying54 ti_107 zi_107 rfl rfl rfl rfl rfl (fun w hh => (dwv_cons (GRewrite.dw (hh.dw 1 rfl) (hh.dw 0 rfl)) dwv_nil))) (fun b75 => ?_)
                  refine JL_bnd fun z76 hz77 => ?_
                  refine JL_st (wants_none rfl) rfl (st_append_od 7 0 Try.underlying54 ti_107 zi_107 rfl bi_107 rfl rfl rfl rfl rfl rfl hz77) (fun v78 => ?_)
                  refine JL_q (wants_none rfl) rfl (ex_assign rfl) ?_
                  refine JL_nil ?_
                  refine N_block ?_
                  refine N_then ?_
                  refine J_region ?_
                  refine JL_q (wants_none rfl) rfl (ex_move rfl) ?_
                  refine JL_q (wants_none rfl) rfl (ex_add rfl rfl) ?_
                  refine JL_q (wants_none rfl) rfl (ex_assign rfl) ?_
                  refine JL_nil ?_
                  exact N_next' (v78, (g69_1 ++ ((((.slice (some ⟨b73, 0, none⟩) 3 3) : Value).ownBlock.toList ++ []) ++ ((((.slice (some ⟨b74, 0, none⟩) 4 4) : Value).ownBlock.toList ++ []) ++ [])))) ⟨rfl, rfl, rfl, rfl, rfl, rfl, rfl, rfl, trivial⟩ [6, 7] rfl rfl
                · refine J_exit ?_
                  refine N_then_exit ?_
                  exact N_break' (g69_0, g69_1) ⟨rfl, rfl, rfl, rfl, rfl, rfl, rfl, rfl, trivial⟩ [1, 2] rfl rfl
              · obtain ⟨g69_0, g69_1⟩ := g69
                refine N_then ?_
                refine J_region ?_
                refine JL_q (wants_none rfl) rfl (ex_move rfl) ?_
                refine JL_q (wants_none rfl) rfl (ex_move rfl) ?_
                refine JL_q (wants_none rfl) rfl (ex_move rfl) ?_
                refine JL_q (wants_none rfl) rfl (ex_move rfl) ?_
                refine JL_st (wants_none rfl) rfl (st_buildSlice (vs := [.int .i64 r2, .int .i64 (w64 (p0.Symbols + (w64 (Int.tdiv s4.2 p0.Symbols)))), .int .i64 r2]) ([r2, (w64 (p0.Symbols + (w64 (Int.tdiv s4.2 p0.Symbols)))), r2] : List Int) Try.underlying31 ti_2 zi_2 rfl rfl rfl (fun w hh => ⟨(Rd.mk_int _ _ _), (Rd.mk_int _ _ _), (Rd.mk_int _ _ _), trivial⟩)) (fun b79 => ?_)
                refine JL_q (wants_none rfl) rfl (ex_move rfl) ?_
                refine JL_q (wants_none rfl) rfl (ex_move rfl) ?_
                refine JL_q (wants_none rfl) rfl (ex_move rfl) ?_
                refine JL_q (wants_none rfl) rfl (ex_move rfl) ?_
                refine JL_st (wants_none rfl) rfl (st_buildSlice (vs := [.int .i64 r2, .int .i64 (w64 (p0.Symbols + y11.Next)), .int .i64 0, .int .i64 y11.Write, .int .i64 r2]) ([r2, (w64 (p0.Symbols + y11.Next)), 0, y11.Write, r2] : List Int) Try.underlying31 ti_2 zi_2 rfl rfl rfl (fun w hh => ⟨(Rd.mk_int _ _ _), (Rd.mk_int _ _ _), (Rd.mk_int _ _ _), (Rd.mk_int _ _ _), (Rd.mk_int _ _ _), trivial⟩)) (fun b80 => ?_)
                refine JL_q (wants_none rfl) rfl (ex_build si_107 rfl (.cons fi_107_0 rfl rfl (.cons fi_107_1 rfl rfl .nil)) (fun w hh => ⟨(hh.cv_ow 1 rfl), (hh.cv_ow 0 rfl), trivial⟩)) ?_
                refine JL_ctx (fun w hh => hh.tokf 1 rfl rfl) ?_
                refine JL_ctx (fun w hh => hh.tokf 1 rfl rfl) ?_
                refine JL_st (wants_none rfl) rfl (st_buildSlice_od (vs := [.agg #[(.slice (some ⟨b79, 0, none⟩) 3 3), (.slice (some ⟨b80, 0, none⟩) 5 5)]]) (B := ((((.slice (some ⟨b79, 0, none⟩) 3 3) : Value).ownBlock.toList ++ []) ++ ((((.slice (some ⟨b80, 0, none⟩) 5 5) : Value).ownBlock.toList ++ []) ++ []))) ([(⟨([r2, (w64 (p0.Symbols + (w64 (Int.tdiv s4.2 p0.Symbols)))), r2] : List Int), ([r2, (w64 (p0.Symbols + y11.Next)), 0, y11.Write, r2] : List Int)⟩ : GRewrite)] : List GRewrite) [1, 0] Try.underlying54 ti_107 zi_107 rfl rfl rfl rfl rfl (fun w hh => (dwv_cons (GRewrite.dw (hh.dw 1 rfl) (hh.dw 0 rfl)) dwv_nil))) (fun b81 => ?_)
                refine JL_bnd fun z82 hz83 => ?_
                refine JL_st (wants_none rfl) rfl (st_append_od 6 0 Try.underlying54 ti_107 zi_107 rfl bi_107 rfl rfl rfl rfl rfl rfl hz83) (fun v84 => ?_)
                refine JL_q (wants_none rfl) rfl (ex_assign rfl) ?_
                refine JL_nil ?_
                refine N_block ?_
                refine N_then ?_
                refine J_region ?_
                refine JL_q (wants_none rfl) rfl (ex_move rfl) ?_
                refine JL_q (wants_none rfl) rfl (ex_add rfl rfl) ?_
                refine JL_q (wants_none rfl) rfl (ex_assign rfl) ?_
                refine JL_nil ?_
                exact N_next' (v84, (g69_1 ++ ((((.slice (some ⟨b79, 0, none⟩) 3 3) : Value).ownBlock.toList ++ []) ++ ((((.slice (some ⟨b80, 0, none⟩) 5 5) : Value).ownBlock.toList ++ []) ++ [])))) ⟨rfl, rfl, rfl, rfl, trivial⟩ [5, 6] rfl rfl
            · refine J_skip ?_
              refine N_block ?_
              refine N_then ?_
              refine J_region ?_
              refine JL_q (wants_none rfl) rfl (ex_move rfl) ?_
              refine JL_q (wants_none rfl) rfl (ex_add rfl rfl) ?_
              refine JL_q (wants_none rfl) rfl (ex_assign rfl) ?_
              refine JL_nil ?_
              exact N_next' (v66, (g51_1 ++ ((((.slice (some ⟨b61, 0, none⟩) 3 3) : Value).ownBlock.toList ++ []) ++ ((((.slice (some ⟨b62, 0, none⟩) 4 4) : Value).ownBlock.toList ++ []) ++ [])))) ⟨rfl, rfl, rfl, rfl, trivial⟩ [5, 6] rfl rfl
    · refine J_exit ?_
      refine N_then_exit ?_
      exact N_break' (g5_0, g5_1) ⟨rfl, rfl, rfl, rfl, trivial⟩ [2, 3] rfl rfl
  · obtain ⟨g5_0, g5_1⟩ := g5
    refine N_then ?_
    refine J_seq ?_
    refine J_region ?_
    refine JL_q (wants_none rfl) rfl (ex_move rfl) ?_
    refine JL_q (wants_none rfl) rfl (ex_move rfl) ?_
    refine JL_q (wants_none rfl) rfl (ex_od 1 rfl (ex_len_ow 1 Try.underlying54 rfl rfl)) ?_
    refine JL_q (wants_none rfl) rfl (ex_gtr rfl rfl) ?_
    refine JL_q (wants_none rfl) rfl (ex_move rfl) ?_
    refine JL_cond (fun h85 => ?_) (fun h85 => ?_)
    · refine JL_q (wants_some rfl rfl rfl h85) rfl (ex_move rfl) ?_
      refine JL_q (wants_some rfl rfl rfl h85) rfl (ex_od 1 rfl (ex_len_ow 1 Try.underlying54 rfl rfl)) ?_
      refine JL_q (wants_some rfl rfl rfl h85) rfl (ex_leq rfl rfl) ?_
      refine JL_q (wants_none rfl) rfl (ex_pick_true rfl h85 rfl) ?_
      refine JL_q (wants_none rfl) rfl (ex_move rfl) ?_
      refine JL_cond (fun h86 => ?_) (fun h86 => ?_)
      · refine JL_q (wants_some rfl rfl rfl h86) rfl (ex_move rfl) ?_
        refine JL_bnd fun r87 hr88 => ?_
        refine JL_call (wants_some rfl rfl rfl h86) rfl Try.call212 rfl (Ca_of0 fun w hh => c_spec_l16Fits _ w (fun _ hk => hk.elim) _ _ (hh.pa0 0 rfl) _ hr88) (fun _ => ?_)
        refine JL_q (wants_none rfl) rfl (ex_pick_true rfl h86 rfl) ?_
        refine JL_q (wants_none rfl) rfl (ex_assign rfl) ?_
        refine JL_q (wants_none rfl) rfl (ex_assign rfl) ?_
        refine JL_nil ?_
        refine N_then ?_
        refine J_ret ?_
        exact N_ret2 rfl (rv_tmp rfl) (rv_tmp rfl) (fun w hh => ⟨(g5_0, g5_1), rfl, hh.sel [1] rfl⟩)
      · refine JL_passed rfl rfl rfl h86 ?_
        refine JL_passed rfl rfl rfl h86 ?_
        refine JL_q (wants_none rfl) rfl (ex_pick_false rfl h86 rfl) ?_
        refine JL_q (wants_none rfl) rfl (ex_assign rfl) ?_
        refine JL_q (wants_none rfl) rfl (ex_assign rfl) ?_
        refine JL_nil ?_
        refine N_then ?_
        refine J_ret ?_
        exact N_ret2 rfl (rv_tmp rfl) (rv_tmp rfl) (fun w hh => ⟨(g5_0, g5_1), rfl, hh.sel [1] rfl⟩)
    · refine JL_passed rfl rfl rfl h85 ?_
      refine JL_passed rfl rfl rfl h85 ?_
      refine JL_passed rfl rfl rfl h85 ?_
      refine JL_q (wants_none rfl) rfl (ex_pick_false rfl h85 rfl) ?_
      refine JL_q (wants_none rfl) rfl (ex_move rfl) ?_
      refine JL_passed rfl rfl rfl rfl ?_
      refine JL_passed rfl rfl rfl rfl ?_
      refine JL_q (wants_none rfl) rfl (ex_pick_false rfl rfl rfl) ?_
      refine JL_q (wants_none rfl) rfl (ex_assign rfl) ?_
      refine JL_q (wants_none rfl) rfl (ex_assign rfl) ?_
      refine JL_nil ?_
      refine N_then ?_
      refine J_ret ?_
      exact N_ret2 rfl (rv_tmp rfl) (rv_tmp rfl) (fun w hh => ⟨(g5_0, g5_1), rfl, hh.sel [1] rfl⟩)

set_option maxHeartbeats 4000000 in
theorem c_spec_l32Halt (A : Nat → Prop) (w : World) (hA : ∀ k, A k → k < w.heap.size) (v0_ : Value) (p0 : GMachine) (hp0 : RdA A w.heap.size w v0_ p0) (r : (List GRewrite) × Int × Bool) (hr : F_spec_l32Halt p0 = some r) :
    Con Try.prog 101 [v0_] A w (fun x_ : Value × List Nat => .tuple #[x_.1, .int .i64 r.2.1, .bool r.2.2]) (fun x_ => [.od 107 x_.1 r.1 x_.2]) := by
  refine Con_of (v := fun (r : (List GRewrite) × Int × Bool) (x_ : Value × List Nat) => .tuple #[x_.1, .int .i64 r.2.1, .bool r.2.2]) (fs := fun r x_ => [.od 107 x_.1 r.1 x_.2]) Try.func101 rfl Try.ntmps101 rfl ((SH.start hA).start_pa' rfl hp0) rfl ?_ hr
  unfold F_spec_l32Halt
  refine J_seq ?_
  refine J_region ?_
  refine JL_q (wants_none rfl) rfl (ex_assign rfl) ?_
  refine JL_q (wants_none rfl) rfl (ex_assign rfl) ?_
  refine JL_q (wants_none rfl) rfl (ex_assign rfl) ?_
  refine JL_nil ?_
  refine N_then ?_
  refine J_seq ?_
  refine J_seq ?_
  refine J_region ?_
  refine JL_q (wants_none rfl) rfl (ex_move rfl) ?_
  refine JL_bnd fun r1 hr2 => ?_
  refine JL_call (wants_none rfl) rfl Try.call97 rfl (Ca_of0 fun w hh => c_spec_l32Eraser _ w (fun _ hk => hk.elim) _ _ (hh.pa0 0 rfl) _ hr2) (fun _ => ?_)
  refine JL_q (wants_none rfl) rfl (ex_gtr rfl rfl) ?_
  refine JL_nil ?_
  refine N_then ?_
  refine J_if rfl (fun h3 => ?_) (fun h3 => ?_)
  · refine J_seq ?_
    refine J_region ?_
    refine JL_q (wants_none rfl) rfl (ex_assign rfl) ?_
    refine JL_q (wants_none rfl) rfl (ex_assign rfl) ?_
    refine JL_q (wants_none rfl) rfl (ex_assign rfl) ?_
    refine JL_nil ?_
    refine N_then ?_
    refine J_ret ?_
    refine N_then_ret ?_
    refine N_ctx (fun w hh => SH.od_nil (α := GRewrite) 107 hh) ?_
    exact N_ret3 rfl (rv_tmp rfl) (rv_tmp rfl) (rv_tmp rfl) (fun w hh => ⟨((.slice none 0 0 : Value), ([] : List Nat)), rfl, hh.sel [0] rfl⟩)
  · refine J_skip ?_
    refine N_then ?_
    refine J_seq ?_
    refine J_region ?_
    refine JL_q (wants_none rfl) rfl (ex_move rfl) ?_
    refine JL_bnd fun r4 hr5 => ?_
    refine JL_call (wants_none rfl) rfl Try.call175 rfl (Ca_self (fun _ => rfl) fun w hh => c_spec_l16Rules _ w (fun _ hk => hk.elim) _ _ (hh.pa0 0 rfl) _ hr5) (fun x6 => ?_)
    obtain ⟨x6_0, x6_1⟩ := x6
    refine JL_q (wants_none rfl) rfl (ex_move rfl) ?_
    refine JL_q (wants_none rfl) rfl (ex_extract rfl rfl) ?_
    refine JL_q (wants_none rfl) rfl (ex_extract rfl rfl) ?_
    refine JL_q (wants_none rfl) rfl (ex_assign rfl) ?_
    refine JL_q (wants_none rfl) rfl (ex_assign rfl) ?_
    refine JL_nil ?_
    refine N_then ?_
    refine J_seq ?_
    refine J_region ?_
    refine JL_q (wants_none rfl) rfl (ex_move rfl) ?_
    refine JL_q (wants_none rfl) rfl (ex_od 0 rfl (ex_len_ow 0 Try.underlying54 rfl rfl)) ?_
    refine JL_q (wants_none rfl) rfl (ex_assign rfl) ?_
    refine JL_nil ?_
    refine N_then ?_
    refine J_seq ?_
    refine J_region ?_
    refine JL_q (wants_none rfl) rfl (ex_move rfl) ?_
    refine JL_bnd fun r7 hr8 => ?_
    refine JL_call (wants_none rfl) rfl Try.call97 rfl (Ca_of0 fun w hh => c_spec_l32Eraser _ w (fun _ hk => hk.elim) _ _ (hh.pa0 1 rfl) _ hr8) (fun _ => ?_)
    refine JL_q (wants_none rfl) rfl (ex_assign rfl) ?_
    refine JL_nil ?_
    refine N_then ?_
    refine J_seq ?_
    refine J_seq ?_
    refine J_region ?_
    refine JL_q (wants_none rfl) rfl (ex_assign rfl) ?_
    refine JL_nil ?_
    refine N_then ?_
    refine J_loop' (S := (List GRewrite) × Int) (G := Value × List Nat) (F_spec_l32Halt_L1 p0 r7) (fun s9 g10 => [(0, v0_), (5, g10.1), (7, .int .i64 (r4.1.length : Int)), (8, .int .i64 r7), (9, .int .i64 s9.2)]) (fun s9 g10 => [.pa v0_ p0, .od 107 g10.1 s9.1 g10.2]) (r4.1, 0) (x6_0, x6_1) ⟨rfl, rfl, rfl, rfl, rfl, trivial⟩ [1, 0] rfl rfl (fun s9 g10 => ?_) (fun s9 g10 => ?_)
    · obtain ⟨g10_0, g10_1⟩ := g10
      unfold F_spec_l32Halt_L1
      refine J_seq ?_
      refine J_seq ?_
      refine J_region ?_
      refine JL_q (wants_none rfl) rfl (ex_move rfl) ?_
      refine JL_q (wants_none rfl) rfl (ex_move rfl) ?_
      refine JL_q (wants_none rfl) rfl (ex_nilCheck_pa 0 rfl rfl) ?_
      refine JL_st (wants_none rfl) rfl (st_field_pa 0 (GMachine.at_Rules _) fi_39_2 rfl rfl rfl) (fun q11 => ?_)
      refine JL_st (wants_none rfl) rfl (st_load_pa_o 0 (opens_sl _) ti_37 rfl rfl) (fun v12 => ?_)
      refine JL_q (wants_none rfl) rfl (ex_len_rd 0 Try.underlying37 rfl rfl) ?_
      refine JL_q (wants_none rfl) rfl (ex_lss rfl rfl) ?_
      refine JL_nil ?_
      refine N_then ?_
      refine J_if rfl (fun h13 => ?_) (fun h13 => ?_)
      · refine J_skip ?_
        refine N_then ?_
        refine J_seq ?_
        refine J_block ?_
        refine J_seq ?_
        refine J_seq ?_
        refine J_draw [] (by kernel_rfl) ?_
        refine JP_take (i := 0) [0, 1, 2, 3] [] rfl (by kernel_rfl) (by kernel_rfl) (by kernel_rfl) rfl rfl (wants_none rfl) rfl (ex_move rfl) ?_
        refine JP_take (i := 1) [0, 1, 2, 3] [] rfl (by kernel_rfl) (by kernel_rfl) (by kernel_rfl) rfl rfl (wants_none rfl) rfl (ex_nilCheck_pa 2 rfl rfl) ?_
        refine JP_sq (i := 2) [] rfl (by kernel_rfl) (by kernel_rfl) (by kernel_rfl) rfl (wants_none rfl) rfl (sq_field_pa 2 (GMachine.at_Rules _) fi_39_2 rfl rfl rfl) (fun q14 => ?_)
        refine JP_sq (i := 3) [] rfl (by kernel_rfl) (by kernel_rfl) (by kernel_rfl) rfl (wants_none rfl) rfl (sq_load_pa_o 0 (opens_sl _) ti_37 rfl rfl) (fun v15 => ?_)
        refine JP_take (i := 4) [0, 1, 2, 3, 4, 5] [] rfl (by kernel_rfl) (by kernel_rfl) (by kernel_rfl) rfl rfl (wants_none rfl) rfl (ex_move rfl) ?_
        refine JP_bnd fun y16 hy17 => ?_
        refine JP_sq (i := 5) [] rfl (by kernel_rfl) (by kernel_rfl) (by kernel_rfl) rfl (wants_none rfl) rfl (sq_index 0 Try.underlying37 ti_161 rfl rfl rfl hy17) (fun q18 => ?_)
        refine JP_sq (i := 6) [] rfl (by kernel_rfl) (by kernel_rfl) (by kernel_rfl) rfl (wants_none rfl) rfl (sq_load_pt_o 0 (GRule.opens _) ti_161 rfl rfl) (fun _ => ?_)
        refine JP_go [0, 1, 2, 3, 4, 5, 6] [] rfl rfl rfl (fun w21 h1_22 hp20 => ?_)
        refine JD_bnd fun r23 hr24 => ?_
        refine JD_one (i := 7) (by kernel_rfl) ?_
        refine JO_call rfl (wants_none rfl) rfl Try.call176 rfl (Ca_of0 fun w hh => c_spec_l05None _ w (fun _ hk => hk.elim)  _ hr24) (fun _ => ?_)
        refine JD_take (i := 8) hp20 rfl (by kernel_rfl) (by kernel_rfl) (by kernel_rfl) (wants_none rfl) rfl (ex_neq_seq_161 rfl rfl) ?_
        refine JD_done (by kernel_rfl) ?_
        refine N_then ?_
        refine J_if rfl (fun h25 => ?_) (fun h25 => ?_)
        · refine J_exit ?_
          refine N_then_exit ?_
          refine N_block_exit ?_
          refine N_then ?_
          refine J_region ?_
          refine JL_q (wants_none rfl) rfl (ex_move rfl) ?_
          refine JL_q (wants_none rfl) rfl (ex_add rfl rfl) ?_
          refine JL_q (wants_none rfl) rfl (ex_assign rfl) ?_
          refine JL_nil ?_
          exact N_next' (g10_0, g10_1) ⟨rfl, rfl, rfl, rfl, rfl, trivial⟩ [5, 6] rfl rfl
        · refine J_skip ?_
          refine N_then ?_
          refine J_seq ?_
          refine J_draw [] (by kernel_rfl) ?_
          refine JP_take (i := 0) [0, 1, 2, 3, 4, 5, 6] [] rfl (by kernel_rfl) (by kernel_rfl) (by kernel_rfl) rfl rfl (wants_none rfl) rfl (ex_move rfl) ?_
          refine JP_take (i := 1) [0, 1, 2, 3, 4, 5, 6] [] rfl (by kernel_rfl) (by kernel_rfl) (by kernel_rfl) rfl rfl (wants_none rfl) rfl (ex_nilCheck_pa 5 rfl rfl) ?_
          refine JP_sq (i := 2) [] rfl (by kernel_rfl) (by kernel_rfl) (by kernel_rfl) rfl (wants_none rfl) rfl (sq_field_pa 5 (GMachine.at_Symbols _) fi_39_0 rfl rfl rfl) (fun q26 => ?_)
          refine JP_sq (i := 3) [] rfl (by kernel_rfl) (by kernel_rfl) (by kernel_rfl) rfl (wants_none rfl) rfl (sq_load_pa_o 0 (opens_int _) ti_2 rfl rfl) (fun _ => ?_)
          refine JP_take (i := 4) [0, 1, 2, 3, 4, 5, 6, 7] [] rfl (by kernel_rfl) (by kernel_rfl) (by kernel_rfl) rfl rfl (wants_none rfl) rfl (ex_move rfl) ?_
          refine JP_take (i := 5) [0, 1, 2, 3, 4, 5, 6, 7] [] rfl (by kernel_rfl) (by kernel_rfl) (by kernel_rfl) rfl rfl (wants_none rfl) rfl (ex_move rfl) ?_
          refine JP_take (i := 6) [0, 1, 2, 3, 4, 5, 6, 7] [] rfl (by kernel_rfl) (by kernel_rfl) (by kernel_rfl) rfl rfl (wants_none rfl) rfl (ex_nilCheck_pa 6 rfl rfl) ?_
          refine JP_sq (i := 7) [] rfl (by kernel_rfl) (by kernel_rfl) (by kernel_rfl) rfl (wants_none rfl) rfl (sq_field_pa 6 (GMachine.at_Symbols _) fi_39_0 rfl rfl rfl) (fun q28 => ?_)
          refine JP_sq (i := 8) [] rfl (by kernel_rfl) (by kernel_rfl) (by kernel_rfl) rfl (wants_none rfl) rfl (sq_load_pa_o 0 (opens_int _) ti_2 rfl rfl) (fun _ => ?_)
          refine JP_bnd fun u30 hu31 => ?_
          refine JP_take (i := 9) [0, 1, 2, 3, 4, 5, 6, 7, 8] [] rfl (by kernel_rfl) (by kernel_rfl) (by kernel_rfl) rfl rfl (wants_none rfl) rfl (ex_quo rfl rfl (nz_ne hu31)) ?_
          refine JP_take (i := 10) [0, 1, 2, 3, 4, 5, 6, 7, 8] [] rfl (by kernel_rfl) (by kernel_rfl) (by kernel_rfl) rfl rfl (wants_none rfl) rfl (ex_add rfl rfl) ?_
          refine JP_take (i := 11) [0, 1, 2, 3, 4, 5, 6, 7, 8] [] rfl (by kernel_rfl) (by kernel_rfl) (by kernel_rfl) rfl rfl (wants_none rfl) rfl (ex_assign rfl) ?_
          refine JP_go [] [] rfl rfl rfl (fun _ _ _ => ?_)
          refine JD_done (by kernel_rfl) ?_
          refine N_then ?_
          refine J_seq ?_
          refine J_region ?_
          refine JL_q (wants_none rfl) rfl (ex_move rfl) ?_
          refine JL_q (wants_none rfl) rfl (ex_move rfl) ?_
          refine JL_q (wants_none rfl) rfl (ex_move rfl) ?_
          refine JL_q (wants_none rfl) rfl (ex_move rfl) ?_
          refine JL_q (wants_none rfl) rfl (ex_nilCheck_pa 7 rfl rfl) ?_
          refine JL_st (wants_none rfl) rfl (st_field_pa 7 (GMachine.at_Symbols _) fi_39_0 rfl rfl rfl) (fun q32 => ?_)
          refine JL_st (wants_none rfl) rfl (st_load_pa_o 0 (opens_int _) ti_2 rfl rfl) (fun _ => ?_)
          refine JL_bnd fun u34 hu35 => ?_
          refine JL_q (wants_none rfl) rfl (ex_rem rfl rfl (nz_ne hu35)) ?_
          refine JL_st (wants_none rfl) rfl (st_buildSlice (vs := [.int .i64 (w64 (p0.Symbols + (w64 (Int.tdiv s9.2 p0.Symbols)))), .int .i64 (Int.tmod s9.2 p0.Symbols)]) ([(w64 (p0.Symbols + (w64 (Int.tdiv s9.2 p0.Symbols)))), (Int.tmod s9.2 p0.Symbols)] : List Int) Try.underlying31 ti_2 zi_2 rfl rfl rfl (fun w hh => ⟨(Rd.mk_int _ _ _), (Rd.mk_int _ _ _), trivial⟩)) (fun b36 => ?_)
          refine JL_q (wants_none rfl) rfl (ex_move rfl) ?_
          refine JL_st (wants_none rfl) rfl (st_buildSlice (vs := [.int .i64 r7]) ([r7] : List Int) Try.underlying31 ti_2 zi_2 rfl rfl rfl (fun w hh => ⟨(Rd.mk_int _ _ _), trivial⟩)) (fun b37 => ?_)
          refine JL_q (wants_none rfl) rfl (ex_build si_107 rfl (.cons fi_107_0 rfl rfl (.cons fi_107_1 rfl rfl .nil)) (fun w hh => ⟨(hh.cv_ow 1 rfl), (hh.cv_ow 0 rfl), trivial⟩)) ?_
          refine JL_ctx (fun w hh => hh.tokf 1 rfl rfl) ?_
          refine JL_ctx (fun w hh => hh.tokf 1 rfl rfl) ?_
          refine JL_st (wants_none rfl) rfl (st_buildSlice_od (vs := [.agg #[(.slice (some ⟨b36, 0, none⟩) 2 2), (.slice (some ⟨b37, 0, none⟩) 1 1)]]) (B := ((((.slice (some ⟨b36, 0, none⟩) 2 2) : Value).ownBlock.toList ++ []) ++ ((((.slice (some ⟨b37, 0, none⟩) 1 1) : Value).ownBlock.toList ++ []) ++ []))) ([(⟨([(w64 (p0.Symbols + (w64 (Int.tdiv s9.2 p0.Symbols)))), (Int.tmod s9.2 p0.Symbols)] : List Int), ([r7] : List Int)⟩ : GRewrite)] : List GRewrite) [1, 0] Try.underlying54 ti_107 zi_107 rfl rfl rfl rfl rfl (fun w hh => (dwv_cons (GRewrite.dw (hh.dw 1 rfl) (hh.dw 0 rfl)) dwv_nil))) (fun b38 => ?_)
          refine JL_bnd fun z39 hz40 => ?_
          refine JL_st (wants_none rfl) rfl (st_append_od 14 0 Try.underlying54 ti_107 zi_107 rfl bi_107 rfl rfl rfl rfl rfl rfl hz40) (fun v41 => ?_)
          refine JL_q (wants_none rfl) rfl (ex_assign rfl) ?_
          refine JL_nil ?_
          refine N_then ?_
          refine J_seq ?_
          refine J_region ?_
          refine JL_q (wants_none rfl) rfl (ex_move rfl) ?_
          refine JL_q (wants_none rfl) rfl (ex_move rfl) ?_
          refine JL_q (wants_none rfl) rfl (ex_nilCheck_pa 13 rfl rfl) ?_
          refine JL_st (wants_none rfl) rfl (st_field_pa 13 (GMachine.at_Symbols _) fi_39_0 rfl rfl rfl) (fun q42 => ?_)
          refine JL_st (wants_none rfl) rfl (st_load_pa_o 0 (opens_int _) ti_2 rfl rfl) (fun _ => ?_)
          refine JL_bnd fun u44 hu45 => ?_
          refine JL_q (wants_none rfl) rfl (ex_rem rfl rfl (nz_ne hu45)) ?_
          refine JL_q (wants_none rfl) rfl (ex_eql rfl rfl) ?_
          refine JL_nil ?_
          refine N_then ?_
          refine J_if rfl (fun h46 => ?_) (fun h46 => ?_)
          · refine J_region ?_
            refine JL_q (wants_none rfl) rfl (ex_move rfl) ?_
            refine JL_q (wants_none rfl) rfl (ex_move rfl) ?_
            refine JL_q (wants_none rfl) rfl (ex_move rfl) ?_
            refine JL_bnd fun r47 hr48 => ?_
            refine JL_call (wants_none rfl) rfl Try.call169 rfl (Ca_of0 fun w hh => c_spec_l16Border _ w (fun _ hk => hk.elim) _ _ (hh.pa0 14 rfl) _ hr48) (fun _ => ?_)
            refine JL_st (wants_none rfl) rfl (st_buildSlice (vs := [.int .i64 (w64 (p0.Symbols + (w64 (Int.tdiv s9.2 p0.Symbols)))), .int .i64 r47]) ([(w64 (p0.Symbols + (w64 (Int.tdiv s9.2 p0.Symbols)))), r47] : List Int) Try.underlying31 ti_2 zi_2 rfl rfl rfl (fun w hh => ⟨(Rd.mk_int _ _ _), (Rd.mk_int _ _ _), trivial⟩)) (fun b49 => ?_)
            refine JL_q (wants_none rfl) rfl (ex_move rfl) ?_
            refine JL_q (wants_none rfl) rfl (ex_move rfl) ?_
            refine JL_bnd fun r50 hr51 => ?_
            refine JL_call (wants_none rfl) rfl Try.call169 rfl (Ca_of0 fun w hh => c_spec_l16Border _ w (fun _ hk => hk.elim) _ _ (hh.pa0 15 rfl) _ hr51) (fun _ => ?_)
            refine JL_st (wants_none rfl) rfl (st_buildSlice (vs := [.int .i64 r7, .int .i64 r50]) ([r7, r50] : List Int) Try.underlying31 ti_2 zi_2 rfl rfl rfl (fun w hh => ⟨(Rd.mk_int _ _ _), (Rd.mk_int _ _ _), trivial⟩)) (fun b52 => ?_)
            refine JL_q (wants_none rfl) rfl (ex_build si_107 rfl (.cons fi_107_0 rfl rfl (.cons fi_107_1 rfl rfl .nil)) (fun w hh => ⟨(hh.cv_ow 1 rfl), (hh.cv_ow 0 rfl), trivial⟩)) ?_
            refine JL_ctx (fun w hh => hh.tokf 1 rfl rfl) ?_
            refine JL_ctx (fun w hh => hh.tokf 1 rfl rfl) ?_
            refine JL_st (wants_none rfl) rfl (st_buildSlice_od (vs := [.agg #[(.slice (some ⟨b49, 0, none⟩) 2 2), (.slice (some ⟨b52, 0, none⟩) 2 2)]]) (B := ((((.slice (some ⟨b49, 0, none⟩) 2 2) : Value).ownBlock.toList ++ []) ++ ((((.slice (some ⟨b52, 0, none⟩) 2 2) : Value).ownBlock.toList ++ []) ++ []))) ([(⟨([(w64 (p0.Symbols + (w64 (Int.tdiv s9.2 p0.Symbols)))), r47] : List Int), ([r7, r50] : List Int)⟩ : GRewrite)] : List GRewrite) [1, 0] Try.underlying54 ti_107 zi_107 rfl rfl rfl rfl rfl (fun w hh => (dwv_cons (GRewrite.dw (hh.dw 1 rfl) (hh.dw 0 rfl)) dwv_nil))) (fun b53 => ?_)
            refine JL_bnd fun z54 hz55 => ?_
            refine JL_st (wants_none rfl) rfl (st_append_od 20 0 Try.underlying54 ti_107 zi_107 rfl bi_107 rfl rfl rfl rfl rfl rfl hz55) (fun v56 => ?_)
            refine JL_q (wants_none rfl) rfl (ex_assign rfl) ?_
            refine JL_nil ?_
            refine N_block ?_
            refine N_then ?_
            refine J_region ?_
            refine JL_q (wants_none rfl) rfl (ex_move rfl) ?_
            refine JL_q (wants_none rfl) rfl (ex_add rfl rfl) ?_
            refine JL_q (wants_none rfl) rfl (ex_assign rfl) ?_
            refine JL_nil ?_
            exact N_next' (v56, ((g10_1 ++ ((((.slice (some ⟨b36, 0, none⟩) 2 2) : Value).ownBlock.toList ++ []) ++ ((((.slice (some ⟨b37, 0, none⟩) 1 1) : Value).ownBlock.toList ++ []) ++ []))) ++ ((((.slice (some ⟨b49, 0, none⟩) 2 2) : Value).ownBlock.toList ++ []) ++ ((((.slice (some ⟨b52, 0, none⟩) 2 2) : Value).ownBlock.toList ++ []) ++ [])))) ⟨rfl, rfl, rfl, rfl, rfl, trivial⟩ [19, 20] rfl rfl
          · refine J_skip ?_
            refine N_block ?_
            refine N_then ?_
            refine J_region ?_
            refine JL_q (wants_none rfl) rfl (ex_move rfl) ?_
            refine JL_q (wants_none rfl) rfl (ex_add rfl rfl) ?_
            refine JL_q (wants_none rfl) rfl (ex_assign rfl) ?_
            refine JL_nil ?_
            exact N_next' (v41, (g10_1 ++ ((((.slice (some ⟨b36, 0, none⟩) 2 2) : Value).ownBlock.toList ++ []) ++ ((((.slice (some ⟨b37, 0, none⟩) 1 1) : Value).ownBlock.toList ++ []) ++ [])))) ⟨rfl, rfl, rfl, rfl, rfl, trivial⟩ [14, 15] rfl rfl
      · refine J_exit ?_
        refine N_then_exit ?_
        exact N_break' (g10_0, g10_1) ⟨rfl, rfl, rfl, rfl, rfl, trivial⟩ [2, 3] rfl rfl
    · obtain ⟨g10_0, g10_1⟩ := g10
      refine N_then ?_
      refine J_seq ?_
      refine J_seq ?_
      refine J_region ?_
      refine JL_q (wants_none rfl) rfl (ex_assign rfl) ?_
      refine JL_nil ?_
      refine N_then ?_
      refine J_loop' (S := (List GRewrite) × Int) (G := Value × List Nat) (F_spec_l32Halt_L2 p0 r7) (fun s57 g58 => [(0, v0_), (5, g58.1), (7, .int .i64 (r4.1.length : Int)), (8, .int .i64 r7), (11, .int .i64 s57.2)]) (fun s57 g58 => [.pa v0_ p0, .od 107 g58.1 s57.1 g58.2]) (s9.1, 0) (g10_0, g10_1) ⟨rfl, rfl, rfl, rfl, rfl, trivial⟩ [0, 1] rfl rfl (fun s57 g58 => ?_) (fun s57 g58 => ?_)
      · obtain ⟨g58_0, g58_1⟩ := g58
        unfold F_spec_l32Halt_L2
        refine J_seq ?_
        refine J_seq ?_
        refine J_region ?_
        refine JL_q (wants_none rfl) rfl (ex_move rfl) ?_
        refine JL_q (wants_none rfl) rfl (ex_move rfl) ?_
        refine JL_q (wants_none rfl) rfl (ex_nilCheck_pa 0 rfl rfl) ?_
        refine JL_st (wants_none rfl) rfl (st_field_pa 0 (GMachine.at_Symbols _) fi_39_0 rfl rfl rfl) (fun q59 => ?_)
        refine JL_st (wants_none rfl) rfl (st_load_pa_o 0 (opens_int _) ti_2 rfl rfl) (fun _ => ?_)
        refine JL_q (wants_none rfl) rfl (ex_lss rfl rfl) ?_
        refine JL_nil ?_
        refine N_then ?_
        refine J_if rfl (fun h61 => ?_) (fun h61 => ?_)
        · refine J_skip ?_
          refine N_then ?_
          refine J_seq ?_
          refine J_block ?_
          refine J_region ?_
          refine JL_q (wants_none rfl) rfl (ex_move rfl) ?_
          refine JL_q (wants_none rfl) rfl (ex_move rfl) ?_
          refine JL_q (wants_none rfl) rfl (ex_move rfl) ?_
          refine JL_st (wants_none rfl) rfl (st_buildSlice (vs := [.int .i64 r7, .int .i64 s57.2]) ([r7, s57.2] : List Int) Try.underlying31 ti_2 zi_2 rfl rfl rfl (fun w hh => ⟨(Rd.mk_int _ _ _), (Rd.mk_int _ _ _), trivial⟩)) (fun b62 => ?_)
          refine JL_q (wants_none rfl) rfl (ex_move rfl) ?_
          refine JL_st (wants_none rfl) rfl (st_buildSlice (vs := [.int .i64 r7]) ([r7] : List Int) Try.underlying31 ti_2 zi_2 rfl rfl rfl (fun w hh => ⟨(Rd.mk_int _ _ _), trivial⟩)) (fun b63 => ?_)
          refine JL_q (wants_none rfl) rfl (ex_build si_107 rfl (.cons fi_107_0 rfl rfl (.cons fi_107_1 rfl rfl .nil)) (fun w hh => ⟨(hh.cv_ow 1 rfl), (hh.cv_ow 0 rfl), trivial⟩)) ?_
          refine JL_q (wants_none rfl) rfl (ex_move rfl) ?_
          refine JL_q (wants_none rfl) rfl (ex_move rfl) ?_
          refine JL_st (wants_none rfl) rfl (st_buildSlice (vs := [.int .i64 s57.2, .int .i64 r7]) ([s57.2, r7] : List Int) Try.underlying31 ti_2 zi_2 rfl rfl rfl (fun w hh => ⟨(Rd.mk_int _ _ _), (Rd.mk_int _ _ _), trivial⟩)) (fun b64 => ?_)
          refine JL_q (wants_none rfl) rfl (ex_move rfl) ?_
          refine JL_st (wants_none rfl) rfl (st_buildSlice (vs := [.int .i64 r7]) ([r7] : List Int) Try.underlying31 ti_2 zi_2 rfl rfl rfl (fun w hh => ⟨(Rd.mk_int _ _ _), trivial⟩)) (fun b65 => ?_)
          refine JL_q (wants_none rfl) rfl (ex_build si_107 rfl (.cons fi_107_0 rfl rfl (.cons fi_107_1 rfl rfl .nil)) (fun w hh => ⟨(hh.cv_ow 1 rfl), (hh.cv_ow 0 rfl), trivial⟩)) ?_
          refine JL_ctx (fun w hh => hh.tokf 3 rfl rfl) ?_
          refine JL_ctx (fun w hh => hh.tokf 3 rfl rfl) ?_
          refine JL_ctx (fun w hh => hh.tokf 3 rfl rfl) ?_
          refine JL_ctx (fun w hh => hh.tokf 3 rfl rfl) ?_
          refine JL_st (wants_none rfl) rfl (st_buildSlice_od (vs := [.agg #[(.slice (some ⟨b62, 0, none⟩) 2 2), (.slice (some ⟨b63, 0, none⟩) 1 1)], .agg #[(.slice (some ⟨b64, 0, none⟩) 2 2), (.slice (some ⟨b65, 0, none⟩) 1 1)]]) (B := ((((.slice (some ⟨b62, 0, none⟩) 2 2) : Value).ownBlock.toList ++ []) ++ ((((.slice (some ⟨b63, 0, none⟩) 1 1) : Value).ownBlock.toList ++ []) ++ ((((.slice (some ⟨b64, 0, none⟩) 2 2) : Value).ownBlock.toList ++ []) ++ ((((.slice (some ⟨b65, 0, none⟩) 1 1) : Value).ownBlock.toList ++ []) ++ []))))) ([(⟨([r7, s57.2] : List Int), ([r7] : List Int)⟩ : GRewrite), (⟨([s57.2, r7] : List Int), ([r7] : List Int)⟩ : GRewrite)] : List GRewrite) [3, 2, 1, 0] Try.underlying54 ti_107 zi_107 rfl rfl rfl rfl rfl (fun w hh => (dwv_cons (GRewrite.dw (hh.dw 3 rfl) (hh.dw 2 rfl)) (dwv_cons (GRewrite.dw (hh.dw 1 rfl) (hh.dw 0 rfl)) dwv_nil)))) (fun b66 => ?_)
          refine JL_bnd fun z67 hz68 => ?_
          refine JL_st (wants_none rfl) rfl (st_append_od 11 0 Try.underlying54 ti_107 zi_107 rfl bi_107 rfl rfl rfl rfl rfl rfl hz68) (fun v69 => ?_)
          refine JL_q (wants_none rfl) rfl (ex_assign rfl) ?_
          refine JL_nil ?_
          refine N_block ?_
          refine N_then ?_
          refine J_region ?_
          refine JL_q (wants_none rfl) rfl (ex_move rfl) ?_
          refine JL_q (wants_none rfl) rfl (ex_add rfl rfl) ?_
          refine JL_q (wants_none rfl) rfl (ex_assign rfl) ?_
          refine JL_nil ?_
          exact N_next' (v69, (g58_1 ++ ((((.slice (some ⟨b62, 0, none⟩) 2 2) : Value).ownBlock.toList ++ []) ++ ((((.slice (some ⟨b63, 0, none⟩) 1 1) : Value).ownBlock.toList ++ []) ++ ((((.slice (some ⟨b64, 0, none⟩) 2 2) : Value).ownBlock.toList ++ []) ++ ((((.slice (some ⟨b65, 0, none⟩) 1 1) : Value).ownBlock.toList ++ []) ++ [])))))) ⟨rfl, rfl, rfl, rfl, rfl, trivial⟩ [10, 11] rfl rfl
        · refine J_exit ?_
          refine N_then_exit ?_
          exact N_break' (g58_0, g58_1) ⟨rfl, rfl, rfl, rfl, rfl, trivial⟩ [1, 2] rfl rfl
      · obtain ⟨g58_0, g58_1⟩ := g58
        refine N_then ?_
        refine J_seq ?_
        refine J_region ?_
        refine JL_q (wants_none rfl) rfl (ex_move rfl) ?_
        refine JL_q (wants_none rfl) rfl (ex_move rfl) ?_
        refine JL_q (wants_none rfl) rfl (ex_move rfl) ?_
        refine JL_q (wants_none rfl) rfl (ex_od 1 rfl (ex_len_ow 1 Try.underlying54 rfl rfl)) ?_
        refine JL_q (wants_none rfl) rfl (ex_leq rfl rfl) ?_
        refine JL_q (wants_none rfl) rfl (ex_assign rfl) ?_
        refine JL_q (wants_none rfl) rfl (ex_assign rfl) ?_
        refine JL_q (wants_none rfl) rfl (ex_assign rfl) ?_
        refine JL_nil ?_
        refine N_then ?_
        refine J_ret ?_
        exact N_ret3 rfl (rv_tmp rfl) (rv_tmp rfl) (rv_tmp rfl) (fun w hh => ⟨(g58_0, g58_1), rfl, hh.sel [1] rfl⟩)

set_option maxHeartbeats 4000000 in
theorem c_impl_alphabet_rewritesOf (A : Nat → Prop) (w : World) (hA : ∀ k, A k → k < w.heap.size) (v0_ : Value) (p0 : Galphabet) (hp0 : Rd A w v0_ p0) (v1_ : Value) (p1 : GMachine) (hp1 : Rd A w v1_ p1) (p2 : Int) (p3 : Int) (v4_ : Value) (p4 : GRule) (hp4 : Rd A w v4_ p4) (r : (List GRewrite)) (hr : F_impl_alphabet_rewritesOf p0 p1 p2 p3 p4 = some r) :
    Con Try.prog 213 [v0_, v1_, .int .i64 p2, .int .i64 p3, v4_] A w (fun x_ : Value × List Nat => x_.1) (fun x_ => [.od 107 x_.1 r x_.2]) := by
  obtain rfl := Galphabet.open hp0
  obtain ⟨v1_0, rfl, hp1_0⟩ := GMachine.open hp1
  obtain rfl := GRule.open hp4
  refine Con_of (v := fun (r : (List GRewrite)) (x_ : Value × List Nat) => x_.1) (fs := fun r x_ => [.od 107 x_.1 r x_.2]) Try.func213 rfl Try.ntmps213 rfl ((SH.start hA).start_rd rfl hp1_0) rfl ?_ hr
  unfold F_impl_alphabet_rewritesOf
  refine J_seq ?_
  refine J_region ?_
  refine JL_st (wants_none rfl) rfl (st_box' rfl (fun w hh => (cv_aggs ⟨cv_int, cv_int, trivial⟩))) (fun b1 => ?_)
  refine JL_st (wants_none rfl) rfl (st_box' rfl (fun w hh => (cv_aggs ⟨cv_int, cv_int, (hh.cv 1 rfl), trivial⟩))) (fun b2 => ?_)
  refine JL_st (wants_none rfl) rfl (st_box' rfl (fun w hh => (cv_aggs ⟨cv_int, cv_int, cv_int, trivial⟩))) (fun b3 => ?_)
  refine JL_q (wants_none rfl) rfl (ex_assign rfl) ?_
  refine JL_nil ?_
  refine N_then ?_
  refine J_seq ?_
  refine J_draw [] (by kernel_rfl) ?_
  refine JP_take (i := 0) [0, 1, 2, 3] [] rfl (by kernel_rfl) (by kernel_rfl) (by kernel_rfl) rfl rfl (wants_none rfl) rfl (ex_fieldAddr fi_180_0 rfl rfl) ?_
  refine JP_take (i := 1) [0, 1, 2, 3] [] rfl (by kernel_rfl) (by kernel_rfl) (by kernel_rfl) rfl rfl (wants_none rfl) rfl (ex_load_bx 2 ti_2 rfl rfl rfl) ?_
  refine JP_take (i := 2) [0, 1, 2, 3] [] rfl (by kernel_rfl) (by kernel_rfl) (by kernel_rfl) rfl rfl (wants_none rfl) rfl (ex_move rfl) ?_
  refine JP_take (i := 3) [0, 1, 2, 3] [] rfl (by kernel_rfl) (by kernel_rfl) (by kernel_rfl) rfl rfl (wants_none rfl) rfl (ex_add rfl rfl) ?_
  refine JP_take (i := 4) [0, 1, 2, 3] [] rfl (by kernel_rfl) (by kernel_rfl) (by kernel_rfl) rfl rfl (wants_none rfl) rfl (ex_fieldAddr fi_180_0 rfl rfl) ?_
  refine JP_take (i := 5) [0, 1, 2, 3] [] rfl (by kernel_rfl) (by kernel_rfl) (by kernel_rfl) rfl rfl (wants_none rfl) rfl (ex_load_bx 2 ti_2 rfl rfl rfl) ?_
  refine JP_take (i := 6) [0, 1, 2, 3] [] rfl (by kernel_rfl) (by kernel_rfl) (by kernel_rfl) rfl rfl (wants_none rfl) rfl (ex_fieldAddr fi_161_2 rfl rfl) ?_
  refine JP_take (i := 7) [0, 1, 2, 3] [] rfl (by kernel_rfl) (by kernel_rfl) (by kernel_rfl) rfl rfl (wants_none rfl) rfl (ex_load_bx 0 ti_2 rfl rfl rfl) ?_
  refine JP_take (i := 8) [0, 1, 2, 3] [] rfl (by kernel_rfl) (by kernel_rfl) (by kernel_rfl) rfl rfl (wants_none rfl) rfl (ex_add rfl rfl) ?_
  refine JP_take (i := 9) [0, 1, 2, 3] [] rfl (by kernel_rfl) (by kernel_rfl) (by kernel_rfl) rfl rfl (wants_none rfl) rfl (ex_fieldAddr fi_180_1 rfl rfl) ?_
  refine JP_take (i := 10) [0, 1, 2, 3] [] rfl (by kernel_rfl) (by kernel_rfl) (by kernel_rfl) rfl rfl (wants_none rfl) rfl (ex_load_bx 2 ti_2 rfl rfl rfl) ?_
  refine JP_take (i := 11) [0, 1, 2, 3] [] rfl (by kernel_rfl) (by kernel_rfl) (by kernel_rfl) rfl rfl (wants_none rfl) rfl (ex_assign rfl) ?_
  refine JP_take (i := 12) [0, 1, 2, 3] [] rfl (by kernel_rfl) (by kernel_rfl) (by kernel_rfl) rfl rfl (wants_none rfl) rfl (ex_assign rfl) ?_
  refine JP_take (i := 13) [0, 1, 2, 3] [] rfl (by kernel_rfl) (by kernel_rfl) (by kernel_rfl) rfl rfl (wants_none rfl) rfl (ex_assign rfl) ?_
  refine JP_go [] [] rfl rfl rfl (fun _ _ _ => ?_)
  refine JD_done (by kernel_rfl) ?_
  refine N_then ?_
  refine J_seq ?_
  refine J_region ?_
  refine JL_st (wants_none rfl) rfl (st_buildSlice_od (vs := []) (B := ([] : List Nat)) ([] : List GRewrite) [] Try.underlying54 ti_107 zi_107 rfl rfl rfl rfl rfl (fun w hh => dwv_nil)) (fun b4 => ?_)
  refine JL_st (wants_none rfl) rfl (st_alloc zi_54 rfl) (fun b5 => ?_)
  refine JL_sk (wants_none rfl) (sk_store_bx' 0 ti_54 rfl rfl (fun w hh => (hh.cv_od 1 rfl)) rfl rfl rfl rfl) ?_
  refine JL_nil ?_
  refine N_then ?_
  refine J_seq ?_
  refine J_region ?_
  refine JL_q (wants_none rfl) rfl (ex_makeFunc rfl) ?_
  refine JL_q (wants_none rfl) rfl (ex_assign rfl) ?_
  refine JL_nil ?_
  refine N_then ?_
  refine J_seq ?_
  refine J_seq ?_
  refine J_region ?_
  refine JL_q (wants_none rfl) rfl (ex_fieldAddr fi_161_1 rfl rfl) ?_
  refine JL_q (wants_none rfl) rfl (ex_load_bx 2 ti_2 rfl rfl rfl) ?_
  refine JL_q (wants_none rfl) rfl (ex_eql rfl rfl) ?_
  refine JL_nil ?_
  refine N_then ?_
  refine J_if rfl (fun h6 => ?_) (fun h6 => ?_)
  · refine J_seq ?_
    refine J_region ?_
    refine JL_q (wants_none rfl) rfl (ex_move rfl) ?_
    refine JL_q (wants_none rfl) rfl (ex_move rfl) ?_
    refine JL_q (wants_none rfl) rfl (ex_move rfl) ?_
    refine JL_st (wants_none rfl) rfl (st_buildSlice (vs := [.int .i64 (w64 (p0.state + p2)), .int .i64 p3]) ([(w64 (p0.state + p2)), p3] : List Int) Try.underlying31 ti_2 zi_2 rfl rfl rfl (fun w hh => ⟨(Rd.mk_int _ _ _), (Rd.mk_int _ _ _), trivial⟩)) (fun b7 => ?_)
    refine JL_q (wants_none rfl) rfl (ex_fieldAddr fi_161_0 rfl rfl) ?_
    refine JL_q (wants_none rfl) rfl (ex_load_bx 3 ti_2 rfl rfl rfl) ?_
    refine JL_q (wants_none rfl) rfl (ex_move rfl) ?_
    refine JL_st (wants_none rfl) rfl (st_buildSlice (vs := [.int .i64 p4.Write, .int .i64 (w64 (p0.state + p4.Next))]) ([p4.Write, (w64 (p0.state + p4.Next))] : List Int) Try.underlying31 ti_2 zi_2 rfl rfl rfl (fun w hh => ⟨(Rd.mk_int _ _ _), (Rd.mk_int _ _ _), trivial⟩)) (fun b8 => ?_)
    refine JL_inlinev (args := [_, _]) (caps := [.pointer (some ⟨b5, 0, none⟩)]) (wants_none rfl) rfl Try.call222 rfl rfl Try.func222 rfl Try.ntmps222 rfl rfl (fun K_ hK9 => ?_)
    refine J_region ?_
    refine JL_q (wants_none rfl) rfl (ex_load_bx 2 ti_54 rfl rfl rfl) ?_
    refine JL_q (wants_none rfl) rfl (ex_move rfl) ?_
    refine JL_q (wants_none rfl) rfl (ex_move rfl) ?_
    refine JL_q (wants_none rfl) rfl (ex_build si_107 rfl (.cons fi_107_0 rfl rfl (.cons fi_107_1 rfl rfl .nil)) (fun w hh => ⟨(hh.cv_ow 1 rfl), (hh.cv_ow 0 rfl), trivial⟩)) ?_
    refine JL_ctx (fun w hh => hh.tokf 1 rfl rfl) ?_
    refine JL_ctx (fun w hh => hh.tokf 1 rfl rfl) ?_
    refine JL_st (wants_none rfl) rfl (st_buildSlice_od (vs := [.agg #[(.slice (some ⟨b7, 0, none⟩) 2 2), (.slice (some ⟨b8, 0, none⟩) 2 2)]]) (B := ((((.slice (some ⟨b7, 0, none⟩) 2 2) : Value).ownBlock.toList ++ []) ++ ((((.slice (some ⟨b8, 0, none⟩) 2 2) : Value).ownBlock.toList ++ []) ++ []))) ([(⟨([(w64 (p0.state + p2)), p3] : List Int), ([p4.Write, (w64 (p0.state + p4.Next))] : List Int)⟩ : GRewrite)] : List GRewrite) [1, 0] Try.underlying54 ti_107 zi_107 rfl rfl rfl rfl rfl (fun w hh => (dwv_cons (GRewrite.dw (hh.dw 1 rfl) (hh.dw 0 rfl)) dwv_nil))) (fun b10 => ?_)
    refine JL_bnd fun z11 hz12 => ?_
    refine JL_st (wants_none rfl) rfl (st_append_od 6 0 Try.underlying54 ti_107 zi_107 rfl bi_107 rfl rfl rfl rfl rfl rfl hz12) (fun v13 => ?_)
    refine JL_sk (wants_none rfl) (sk_store_bx' 5 ti_54 rfl rfl (fun w hh => (hh.cv_od 6 rfl)) rfl rfl rfl rfl) ?_
    refine JL_nil ?_
    refine N_inl0 (.inr rfl) hK9 rfl ?_
    refine JL_nil ?_
    refine N_then ?_
    refine J_seq ?_
    refine J_cut' (S' := (List GRewrite)) (G' := Value × List Nat) (fun s14 g15 => [(14, .pointer (some ⟨b5, 0, none⟩))]) (fun s14 g15 => [.od 107 g15.1 s14 g15.2, .bx b5 54 [g15.1]]) ?_ (fun s14 g15 => ?_)
    · refine J_seq ?_
      refine J_region ?_
      refine JL_q (wants_none rfl) rfl (ex_move rfl) ?_
      refine JL_q (wants_none rfl) rfl (ex_eql rfl rfl) ?_
      refine JL_nil ?_
      refine N_then ?_
      refine J_if rfl (fun h16 => ?_) (fun h16 => ?_)
      · refine J_region ?_
        refine JL_q (wants_none rfl) rfl (ex_move rfl) ?_
        refine JL_q (wants_none rfl) rfl (ex_move rfl) ?_
        refine JL_q (wants_none rfl) rfl (ex_move rfl) ?_
        refine JL_st (wants_none rfl) rfl (st_buildSlice (vs := [.int .i64 (w64 (p0.state + p2)), .int .i64 p0.border]) ([(w64 (p0.state + p2)), p0.border] : List Int) Try.underlying31 ti_2 zi_2 rfl rfl rfl (fun w hh => ⟨(Rd.mk_int _ _ _), (Rd.mk_int _ _ _), trivial⟩)) (fun b17 => ?_)
        refine JL_q (wants_none rfl) rfl (ex_fieldAddr fi_161_0 rfl rfl) ?_
        refine JL_q (wants_none rfl) rfl (ex_load_bx 8 ti_2 rfl rfl rfl) ?_
        refine JL_q (wants_none rfl) rfl (ex_move rfl) ?_
        refine JL_q (wants_none rfl) rfl (ex_move rfl) ?_
        refine JL_st (wants_none rfl) rfl (st_buildSlice (vs := [.int .i64 p4.Write, .int .i64 (w64 (p0.state + p4.Next)), .int .i64 p0.border]) ([p4.Write, (w64 (p0.state + p4.Next)), p0.border] : List Int) Try.underlying31 ti_2 zi_2 rfl rfl rfl (fun w hh => ⟨(Rd.mk_int _ _ _), (Rd.mk_int _ _ _), (Rd.mk_int _ _ _), trivial⟩)) (fun b18 => ?_)
        refine JL_inlinev (args := [_, _]) (caps := [.pointer (some ⟨b5, 0, none⟩)]) (wants_none rfl) rfl Try.call222 rfl rfl Try.func222 rfl Try.ntmps222 rfl rfl (fun K_ hK19 => ?_)
        refine J_region ?_
        refine JL_q (wants_none rfl) rfl (ex_load_bx 7 ti_54 rfl rfl rfl) ?_
        refine JL_q (wants_none rfl) rfl (ex_move rfl) ?_
        refine JL_q (wants_none rfl) rfl (ex_move rfl) ?_
        refine JL_q (wants_none rfl) rfl (ex_build si_107 rfl (.cons fi_107_0 rfl rfl (.cons fi_107_1 rfl rfl .nil)) (fun w hh => ⟨(hh.cv_ow 1 rfl), (hh.cv_ow 0 rfl), trivial⟩)) ?_
        refine JL_ctx (fun w hh => hh.tokf 1 rfl rfl) ?_
        refine JL_ctx (fun w hh => hh.tokf 1 rfl rfl) ?_
        refine JL_st (wants_none rfl) rfl (st_buildSlice_od (vs := [.agg #[(.slice (some ⟨b17, 0, none⟩) 2 2), (.slice (some ⟨b18, 0, none⟩) 3 3)]]) (B := ((((.slice (some ⟨b17, 0, none⟩) 2 2) : Value).ownBlock.toList ++ []) ++ ((((.slice (some ⟨b18, 0, none⟩) 3 3) : Value).ownBlock.toList ++ []) ++ []))) ([(⟨([(w64 (p0.state + p2)), p0.border] : List Int), ([p4.Write, (w64 (p0.state + p4.Next)), p0.border] : List Int)⟩ : GRewrite)] : List GRewrite) [1, 0] Try.underlying54 ti_107 zi_107 rfl rfl rfl rfl rfl (fun w hh => (dwv_cons (GRewrite.dw (hh.dw 1 rfl) (hh.dw 0 rfl)) dwv_nil))) (fun b20 => ?_)
        refine JL_bnd fun z21 hz22 => ?_
        refine JL_st (wants_none rfl) rfl (st_append_od 11 0 Try.underlying54 ti_107 zi_107 rfl bi_107 rfl rfl rfl rfl rfl rfl hz22) (fun v23 => ?_)
        refine JL_sk (wants_none rfl) (sk_store_bx' 10 ti_54 rfl rfl (fun w hh => (hh.cv_od 11 rfl)) rfl rfl rfl rfl) ?_
        refine JL_nil ?_
        refine N_inl0 (.inr rfl) hK19 rfl ?_
        refine JL_nil ?_
        exact N_meet' (v23, (([] ++ ((((.slice (some ⟨b7, 0, none⟩) 2 2) : Value).ownBlock.toList ++ []) ++ ((((.slice (some ⟨b8, 0, none⟩) 2 2) : Value).ownBlock.toList ++ []) ++ []))) ++ ((((.slice (some ⟨b17, 0, none⟩) 2 2) : Value).ownBlock.toList ++ []) ++ ((((.slice (some ⟨b18, 0, none⟩) 3 3) : Value).ownBlock.toList ++ []) ++ [])))) ⟨rfl, trivial⟩ [11, 10] rfl rfl
      · refine J_skip ?_
        exact N_meet' (v13, ([] ++ ((((.slice (some ⟨b7, 0, none⟩) 2 2) : Value).ownBlock.toList ++ []) ++ ((((.slice (some ⟨b8, 0, none⟩) 2 2) : Value).ownBlock.toList ++ []) ++ [])))) ⟨rfl, trivial⟩ [6, 5] rfl rfl
    · obtain ⟨g15_0, g15_1⟩ := g15
      refine N_then ?_
      refine J_seq ?_
      refine J_region ?_
      refine JL_q (wants_none rfl) rfl (ex_load_bx 1 ti_54 rfl rfl rfl) ?_
      refine JL_q (wants_none rfl) rfl (ex_assign rfl) ?_
      refine JL_nil ?_
      refine N_then ?_
      refine J_ret ?_
      refine N_then_ret ?_
      exact N_ret1 rfl (rv_tmp rfl) (fun w hh => ⟨(g15_0, g15_1), rfl, hh.sel [0] rfl⟩)
  · refine J_skip ?_
    refine N_then ?_
    refine J_seq ?_
    refine J_seq ?_
    refine J_region ?_
    refine JL_q (wants_none rfl) rfl (ex_fieldAddr fi_39_0 rfl rfl) ?_
    refine JL_q (wants_none rfl) rfl (ex_load_bx 3 ti_2 rfl rfl rfl) ?_
    refine JL_q (wants_none rfl) rfl (ex_move rfl) ?_
    refine JL_nil ?_
    refine N_then ?_
    refine J_loop' (S := (List GRewrite) × Int) (G := Value × List Nat) (F_impl_alphabet_rewritesOf_L1 p0 p1 p2 p3 p4) (fun s24 g25 => [(3, .int .i64 p3), (6, .pointer (some ⟨b2, 0, none⟩)), (9, .pointer (some ⟨b3, 0, none⟩)), (11, .int .i64 (w64 (p0.state + p2))), (12, .int .i64 (w64 (p0.state + p4.Next))), (13, .int .i64 p0.border), (14, .pointer (some ⟨b5, 0, none⟩)), (15, .func (.func 222) #[] #[.pointer (some ⟨b5, 0, none⟩)]), (57, .int .i64 p1.Symbols), (58, .int .i64 s24.2)]) (fun s24 g25 => [.rd v1_0 p1.Rules, .bx b2 39 [.int .i64 p1.Symbols, .int .i64 p1.States, v1_0], .bx b3 161 [.int .i64 p4.Write, .int .i64 p4.Move, .int .i64 p4.Next], .od 107 g25.1 s24.1 g25.2, .bx b5 54 [g25.1]]) (([] : List GRewrite), 0) ((.slice (some ⟨b4, 0, none⟩) 0 0), ([] : List Nat)) ⟨rfl, rfl, rfl, rfl, rfl, rfl, rfl, rfl, rfl, rfl, trivial⟩ [5, 3, 2, 1, 0] rfl rfl (fun s24 g25 => ?_) (fun s24 g25 => ?_)
    · obtain ⟨g25_0, g25_1⟩ := g25
      unfold F_impl_alphabet_rewritesOf_L1
      refine J_seq ?_
      refine J_region ?_
      refine JL_q (wants_none rfl) rfl (ex_lss rfl rfl) ?_
      refine JL_nil ?_
      refine N_then ?_
      refine J_seq ?_
      refine J_if rfl (fun h26 => ?_) (fun h26 => ?_)
      · refine J_skip ?_
        refine N_then ?_
        refine J_seq ?_
        refine J_block ?_
        refine J_seq ?_
        refine J_region ?_
        refine JL_q (wants_none rfl) rfl (ex_move rfl) ?_
        refine JL_q (wants_none rfl) rfl (ex_assign rfl) ?_
        refine JL_nil ?_
        refine N_then ?_
        refine J_region ?_
        refine JL_q (wants_none rfl) rfl (ex_move rfl) ?_
        refine JL_q (wants_none rfl) rfl (ex_move rfl) ?_
        refine JL_q (wants_none rfl) rfl (ex_move rfl) ?_
        refine JL_q (wants_none rfl) rfl (ex_move rfl) ?_
        refine JL_st (wants_none rfl) rfl (st_buildSlice (vs := [.int .i64 s24.2, .int .i64 (w64 (p0.state + p2)), .int .i64 p3]) ([s24.2, (w64 (p0.state + p2)), p3] : List Int) Try.underlying31 ti_2 zi_2 rfl rfl rfl (fun w hh => ⟨(Rd.mk_int _ _ _), (Rd.mk_int _ _ _), (Rd.mk_int _ _ _), trivial⟩)) (fun b27 => ?_)
        refine JL_q (wants_none rfl) rfl (ex_move rfl) ?_
        refine JL_q (wants_none rfl) rfl (ex_move rfl) ?_
        refine JL_q (wants_none rfl) rfl (ex_fieldAddr fi_161_0 rfl rfl) ?_
        refine JL_q (wants_none rfl) rfl (ex_load_bx 3 ti_2 rfl rfl rfl) ?_
        refine JL_st (wants_none rfl) rfl (st_buildSlice (vs := [.int .i64 (w64 (p0.state + p4.Next)), .int .i64 s24.2, .int .i64 p4.Write]) ([(w64 (p0.state + p4.Next)), s24.2, p4.Write] : List Int) Try.underlying31 ti_2 zi_2 rfl rfl rfl (fun w hh => ⟨(Rd.mk_int _ _ _), (Rd.mk_int _ _ _), (Rd.mk_int _ _ _), trivial⟩)) (fun b28 => ?_)
        refine JL_inlinev (args := [_, _]) (caps := [.pointer (some ⟨b5, 0, none⟩)]) (wants_none rfl) rfl Try.call222 rfl rfl Try.func222 rfl Try.ntmps222 rfl rfl (fun K_ hK29 => ?_)
        refine J_region ?_
        refine JL_q (wants_none rfl) rfl (ex_load_bx 6 ti_54 rfl rfl rfl) ?_
        refine JL_q (wants_none rfl) rfl (ex_move rfl) ?_
        refine JL_q (wants_none rfl) rfl (ex_move rfl) ?_
        refine JL_q (wants_none rfl) rfl (ex_build si_107 rfl (.cons fi_107_0 rfl rfl (.cons fi_107_1 rfl rfl .nil)) (fun w hh => ⟨(hh.cv_ow 1 rfl), (hh.cv_ow 0 rfl), trivial⟩)) ?_
        refine JL_ctx (fun w hh => hh.tokf 1 rfl rfl) ?_
        refine JL_ctx (fun w hh => hh.tokf 1 rfl rfl) ?_
        refine JL_st (wants_none rfl) rfl (st_buildSlice_od (vs := [.agg #[(.slice (some ⟨b27, 0, none⟩) 3 3), (.slice (some ⟨b28, 0, none⟩) 3 3)]]) (B := ((((.slice (some ⟨b27, 0, none⟩) 3 3) : Value).ownBlock.toList ++ []) ++ ((((.slice (some ⟨b28, 0, none⟩) 3 3) : Value).ownBlock.toList ++ []) ++ []))) ([(⟨([s24.2, (w64 (p0.state + p2)), p3] : List Int), ([(w64 (p0.state + p4.Next)), s24.2, p4.Write] : List Int)⟩ : GRewrite)] : List GRewrite) [1, 0] Try.underlying54 ti_107 zi_107 rfl rfl rfl rfl rfl (fun w hh => (dwv_cons (GRewrite.dw (hh.dw 1 rfl) (hh.dw 0 rfl)) dwv_nil))) (fun b30 => ?_)
        refine JL_bnd fun z31 hz32 => ?_
        refine JL_st (wants_none rfl) rfl (st_append_od 8 0 Try.underlying54 ti_107 zi_107 rfl bi_107 rfl rfl rfl rfl rfl rfl hz32) (fun v33 => ?_)
        refine JL_sk (wants_none rfl) (sk_store_bx' 9 ti_54 rfl rfl (fun w hh => (hh.cv_od 8 rfl)) rfl rfl rfl rfl) ?_
        refine JL_nil ?_
        refine N_inl0 (.inr rfl) hK29 rfl ?_
        refine JL_nil ?_
        refine N_block ?_
        refine N_then ?_
        refine J_region ?_
        refine JL_q (wants_none rfl) rfl (ex_add rfl rfl) ?_
        refine JL_q (wants_none rfl) rfl (ex_move rfl) ?_
        refine JL_nil ?_
        exact N_next' (v33, (g25_1 ++ ((((.slice (some ⟨b27, 0, none⟩) 3 3) : Value).ownBlock.toList ++ []) ++ ((((.slice (some ⟨b28, 0, none⟩) 3 3) : Value).ownBlock.toList ++ []) ++ [])))) ⟨rfl, rfl, rfl, rfl, rfl, rfl, rfl, rfl, rfl, rfl, trivial⟩ [5, 6, 7, 8, 9] rfl rfl
      · refine J_exit ?_
        refine N_then_exit ?_
        exact N_break' (g25_0, g25_1) ⟨rfl, rfl, rfl, rfl, rfl, rfl, rfl, rfl, rfl, rfl, trivial⟩ [0, 1, 2, 3, 4] rfl rfl
    · obtain ⟨g25_0, g25_1⟩ := g25
      refine N_then ?_
      refine J_seq ?_
      refine J_region ?_
      refine JL_q (wants_none rfl) rfl (ex_move rfl) ?_
      refine JL_q (wants_none rfl) rfl (ex_move rfl) ?_
      refine JL_q (wants_none rfl) rfl (ex_move rfl) ?_
      refine JL_q (wants_none rfl) rfl (ex_move rfl) ?_
      refine JL_st (wants_none rfl) rfl (st_buildSlice (vs := [.int .i64 p0.border, .int .i64 (w64 (p0.state + p2)), .int .i64 p3]) ([p0.border, (w64 (p0.state + p2)), p3] : List Int) Try.underlying31 ti_2 zi_2 rfl rfl rfl (fun w hh => ⟨(Rd.mk_int _ _ _), (Rd.mk_int _ _ _), (Rd.mk_int _ _ _), trivial⟩)) (fun b34 => ?_)
      refine JL_q (wants_none rfl) rfl (ex_move rfl) ?_
      refine JL_q (wants_none rfl) rfl (ex_move rfl) ?_
      refine JL_q (wants_none rfl) rfl (ex_fieldAddr fi_161_0 rfl rfl) ?_
      refine JL_q (wants_none rfl) rfl (ex_load_bx 3 ti_2 rfl rfl rfl) ?_
      refine JL_st (wants_none rfl) rfl (st_buildSlice (vs := [.int .i64 p0.border, .int .i64 (w64 (p0.state + p4.Next)), .int .i64 0, .int .i64 p4.Write]) ([p0.border, (w64 (p0.state + p4.Next)), 0, p4.Write] : List Int) Try.underlying31 ti_2 zi_2 rfl rfl rfl (fun w hh => ⟨(Rd.mk_int _ _ _), (Rd.mk_int _ _ _), (Rd.mk_int _ _ _), (Rd.mk_int _ _ _), trivial⟩)) (fun b35 => ?_)
      refine JL_inlinev (args := [_, _]) (caps := [.pointer (some ⟨b5, 0, none⟩)]) (wants_none rfl) rfl Try.call222 rfl rfl Try.func222 rfl Try.ntmps222 rfl rfl (fun K_ hK36 => ?_)
      refine J_region ?_
      refine JL_q (wants_none rfl) rfl (ex_load_bx 6 ti_54 rfl rfl rfl) ?_
      refine JL_q (wants_none rfl) rfl (ex_move rfl) ?_
      refine JL_q (wants_none rfl) rfl (ex_move rfl) ?_
      refine JL_q (wants_none rfl) rfl (ex_build si_107 rfl (.cons fi_107_0 rfl rfl (.cons fi_107_1 rfl rfl .nil)) (fun w hh => ⟨(hh.cv_ow 1 rfl), (hh.cv_ow 0 rfl), trivial⟩)) ?_
      refine JL_ctx (fun w hh => hh.tokf 1 rfl rfl) ?_
      refine JL_ctx (fun w hh => hh.tokf 1 rfl rfl) ?_
      refine JL_st (wants_none rfl) rfl (st_buildSlice_od (vs := [.agg #[(.slice (some ⟨b34, 0, none⟩) 3 3), (.slice (some ⟨b35, 0, none⟩) 4 4)]]) (B := ((((.slice (some ⟨b34, 0, none⟩) 3 3) : Value).ownBlock.toList ++ []) ++ ((((.slice (some ⟨b35, 0, none⟩) 4 4) : Value).ownBlock.toList ++ []) ++ []))) ([(⟨([p0.border, (w64 (p0.state + p2)), p3] : List Int), ([p0.border, (w64 (p0.state + p4.Next)), 0, p4.Write] : List Int)⟩ : GRewrite)] : List GRewrite) [1, 0] Try.underlying54 ti_107 zi_107 rfl rfl rfl rfl rfl (fun w hh => (dwv_cons (GRewrite.dw (hh.dw 1 rfl) (hh.dw 0 rfl)) dwv_nil))) (fun b37 => ?_)
      refine JL_bnd fun z38 hz39 => ?_
      refine JL_st (wants_none rfl) rfl (st_append_od 8 0 Try.underlying54 ti_107 zi_107 rfl bi_107 rfl rfl rfl rfl rfl rfl hz39) (fun v40 => ?_)
      refine JL_sk (wants_none rfl) (sk_store_bx' 9 ti_54 rfl rfl (fun w hh => (hh.cv_od 8 rfl)) rfl rfl rfl rfl) ?_
      refine JL_nil ?_
      refine N_inl0 (.inr rfl) hK36 rfl ?_
      refine JL_nil ?_
      refine N_then ?_
      refine J_seq ?_
      refine J_seq ?_
      refine J_region ?_
      refine JL_q (wants_none rfl) rfl (ex_move rfl) ?_
      refine JL_q (wants_none rfl) rfl (ex_eql rfl rfl) ?_
      refine JL_nil ?_
      refine N_then ?_
      refine J_if rfl (fun h41 => ?_) (fun h41 => ?_)
      · refine J_seq ?_
        refine J_seq ?_
        refine J_region ?_
        refine JL_q (wants_none rfl) rfl (ex_fieldAddr fi_39_0 rfl rfl) ?_
        refine JL_q (wants_none rfl) rfl (ex_load_bx 6 ti_2 rfl rfl rfl) ?_
        refine JL_q (wants_none rfl) rfl (ex_move rfl) ?_
        refine JL_nil ?_
        refine N_then ?_
        refine J_loop' (S := (List GRewrite) × Int) (G := Value × List Nat) (F_impl_alphabet_rewritesOf_L2 p0 p1 p2 p4) (fun s42 g43 => [(9, .pointer (some ⟨b3, 0, none⟩)), (11, .int .i64 (w64 (p0.state + p2))), (12, .int .i64 (w64 (p0.state + p4.Next))), (13, .int .i64 p0.border), (14, .pointer (some ⟨b5, 0, none⟩)), (15, .func (.func 222) #[] #[.pointer (some ⟨b5, 0, none⟩)]), (87, .int .i64 p1.Symbols), (88, .int .i64 s42.2)]) (fun s42 g43 => [.bx b3 161 [.int .i64 p4.Write, .int .i64 p4.Move, .int .i64 p4.Next], .od 107 g43.1 s42.1 g43.2, .bx b5 54 [g43.1]]) (z38, 0) (v40, (g25_1 ++ ((((.slice (some ⟨b34, 0, none⟩) 3 3) : Value).ownBlock.toList ++ []) ++ ((((.slice (some ⟨b35, 0, none⟩) 4 4) : Value).ownBlock.toList ++ []) ++ [])))) ⟨rfl, rfl, rfl, rfl, rfl, rfl, rfl, rfl, trivial⟩ [7, 8, 9] rfl rfl (fun s42 g43 => ?_) (fun s42 g43 => ?_)
        · obtain ⟨g43_0, g43_1⟩ := g43
          unfold F_impl_alphabet_rewritesOf_L2
          refine J_seq ?_
          refine J_region ?_
          refine JL_q (wants_none rfl) rfl (ex_lss rfl rfl) ?_
          refine JL_nil ?_
          refine N_then ?_
          refine J_seq ?_
          refine J_if rfl (fun h44 => ?_) (fun h44 => ?_)
          · refine J_skip ?_
            refine N_then ?_
            refine J_seq ?_
            refine J_block ?_
            refine J_seq ?_
            refine J_region ?_
            refine JL_q (wants_none rfl) rfl (ex_move rfl) ?_
            refine JL_q (wants_none rfl) rfl (ex_assign rfl) ?_
            refine JL_nil ?_
            refine N_then ?_
            refine J_region ?_
            refine JL_q (wants_none rfl) rfl (ex_move rfl) ?_
            refine JL_q (wants_none rfl) rfl (ex_move rfl) ?_
            refine JL_q (wants_none rfl) rfl (ex_move rfl) ?_
            refine JL_q (wants_none rfl) rfl (ex_move rfl) ?_
            refine JL_st (wants_none rfl) rfl (st_buildSlice (vs := [.int .i64 s42.2, .int .i64 (w64 (p0.state + p2)), .int .i64 p0.border]) ([s42.2, (w64 (p0.state + p2)), p0.border] : List Int) Try.underlying31 ti_2 zi_2 rfl rfl rfl (fun w hh => ⟨(Rd.mk_int _ _ _), (Rd.mk_int _ _ _), (Rd.mk_int _ _ _), trivial⟩)) (fun b45 => ?_)
            refine JL_q (wants_none rfl) rfl (ex_move rfl) ?_
            refine JL_q (wants_none rfl) rfl (ex_move rfl) ?_
            refine JL_q (wants_none rfl) rfl (ex_fieldAddr fi_161_0 rfl rfl) ?_
            refine JL_q (wants_none rfl) rfl (ex_load_bx 1 ti_2 rfl rfl rfl) ?_
            refine JL_q (wants_none rfl) rfl (ex_move rfl) ?_
            refine JL_st (wants_none rfl) rfl (st_buildSlice (vs := [.int .i64 (w64 (p0.state + p4.Next)), .int .i64 s42.2, .int .i64 p4.Write, .int .i64 p0.border]) ([(w64 (p0.state + p4.Next)), s42.2, p4.Write, p0.border] : List Int) Try.underlying31 ti_2 zi_2 rfl rfl rfl (fun w hh => ⟨(Rd.mk_int _ _ _), (Rd.mk_int _ _ _), (Rd.mk_int _ _ _), (Rd.mk_int _ _ _), trivial⟩)) (fun b46 => ?_)
            refine JL_inlinev (args := [_, _]) (caps := [.pointer (some ⟨b5, 0, none⟩)]) (wants_none rfl) rfl Try.call222 rfl rfl Try.func222 rfl Try.ntmps222 rfl rfl (fun K_ hK47 => ?_)
            refine J_region ?_
            refine JL_q (wants_none rfl) rfl (ex_load_bx 4 ti_54 rfl rfl rfl) ?_
            refine JL_q (wants_none rfl) rfl (ex_move rfl) ?_
            refine JL_q (wants_none rfl) rfl (ex_move rfl) ?_
            refine JL_q (wants_none rfl) rfl (ex_build si_107 rfl (.cons fi_107_0 rfl rfl (.cons fi_107_1 rfl rfl .nil)) (fun w hh => ⟨(hh.cv_ow 1 rfl), (hh.cv_ow 0 rfl), trivial⟩)) ?_
            refine JL_ctx (fun w hh => hh.tokf 1 rfl rfl) ?_
            refine JL_ctx (fun w hh => hh.tokf 1 rfl rfl) ?_
            refine JL_st (wants_none rfl) rfl (st_buildSlice_od (vs := [.agg #[(.slice (some ⟨b45, 0, none⟩) 3 3), (.slice (some ⟨b46, 0, none⟩) 4 4)]]) (B := ((((.slice (some ⟨b45, 0, none⟩) 3 3) : Value).ownBlock.toList ++ []) ++ ((((.slice (some ⟨b46, 0, none⟩) 4 4) : Value).ownBlock.toList ++ []) ++ []))) ([(⟨([s42.2, (w64 (p0.state + p2)), p0.border] : List Int), ([(w64 (p0.state + p4.Next)), s42.2, p4.Write, p0.border] : List Int)⟩ : GRewrite)] : List GRewrite) [1, 0] Try.underlying54 ti_107 zi_107 rfl rfl rfl rfl rfl (fun w hh => (dwv_cons (GRewrite.dw (hh.dw 1 rfl) (hh.dw 0 rfl)) dwv_nil))) (fun b48 => ?_)
            refine JL_bnd fun z49 hz50 => ?_
            refine JL_st (wants_none rfl) rfl (st_append_od 6 0 Try.underlying54 ti_107 zi_107 rfl bi_107 rfl rfl rfl rfl rfl rfl hz50) (fun v51 => ?_)
            refine JL_sk (wants_none rfl) (sk_store_bx' 7 ti_54 rfl rfl (fun w hh => (hh.cv_od 6 rfl)) rfl rfl rfl rfl) ?_
            refine JL_nil ?_
            refine N_inl0 (.inr rfl) hK47 rfl ?_
            refine JL_nil ?_
            refine N_block ?_
            refine N_then ?_
            refine J_region ?_
            refine JL_q (wants_none rfl) rfl (ex_add rfl rfl) ?_
            refine JL_q (wants_none rfl) rfl (ex_move rfl) ?_
            refine JL_nil ?_
            exact N_next' (v51, (g43_1 ++ ((((.slice (some ⟨b45, 0, none⟩) 3 3) : Value).ownBlock.toList ++ []) ++ ((((.slice (some ⟨b46, 0, none⟩) 4 4) : Value).ownBlock.toList ++ []) ++ [])))) ⟨rfl, rfl, rfl, rfl, rfl, rfl, rfl, rfl, trivial⟩ [5, 6, 7] rfl rfl
          · refine J_exit ?_
            refine N_then_exit ?_
            exact N_break' (g43_0, g43_1) ⟨rfl, rfl, rfl, rfl, rfl, rfl, rfl, rfl, trivial⟩ [0, 1, 2] rfl rfl
        · obtain ⟨g43_0, g43_1⟩ := g43
          refine N_then ?_
          refine J_region ?_
          refine JL_q (wants_none rfl) rfl (ex_move rfl) ?_
          refine JL_q (wants_none rfl) rfl (ex_move rfl) ?_
          refine JL_q (wants_none rfl) rfl (ex_move rfl) ?_
          refine JL_q (wants_none rfl) rfl (ex_move rfl) ?_
          refine JL_st (wants_none rfl) rfl (st_buildSlice (vs := [.int .i64 p0.border, .int .i64 (w64 (p0.state + p2)), .int .i64 p0.border]) ([p0.border, (w64 (p0.state + p2)), p0.border] : List Int) Try.underlying31 ti_2 zi_2 rfl rfl rfl (fun w hh => ⟨(Rd.mk_int _ _ _), (Rd.mk_int _ _ _), (Rd.mk_int _ _ _), trivial⟩)) (fun b52 => ?_)
          refine JL_q (wants_none rfl) rfl (ex_move rfl) ?_
          refine JL_q (wants_none rfl) rfl (ex_move rfl) ?_
          refine JL_q (wants_none rfl) rfl (ex_fieldAddr fi_161_0 rfl rfl) ?_
          refine JL_q (wants_none rfl) rfl (ex_load_bx 1 ti_2 rfl rfl rfl) ?_
          refine JL_q (wants_none rfl) rfl (ex_move rfl) ?_
          refine JL_st (wants_none rfl) rfl (st_buildSlice (vs := [.int .i64 p0.border, .int .i64 (w64 (p0.state + p4.Next)), .int .i64 0, .int .i64 p4.Write, .int .i64 p0.border]) ([p0.border, (w64 (p0.state + p4.Next)), 0, p4.Write, p0.border] : List Int) Try.underlying31 ti_2 zi_2 rfl rfl rfl (fun w hh => ⟨(Rd.mk_int _ _ _), (Rd.mk_int _ _ _), (Rd.mk_int _ _ _), (Rd.mk_int _ _ _), (Rd.mk_int _ _ _), trivial⟩)) (fun b53 => ?_)
          refine JL_inlinev (args := [_, _]) (caps := [.pointer (some ⟨b5, 0, none⟩)]) (wants_none rfl) rfl Try.call222 rfl rfl Try.func222 rfl Try.ntmps222 rfl rfl (fun K_ hK54 => ?_)
          refine J_region ?_
          refine JL_q (wants_none rfl) rfl (ex_load_bx 4 ti_54 rfl rfl rfl) ?_
          refine JL_q (wants_none rfl) rfl (ex_move rfl) ?_
          refine JL_q (wants_none rfl) rfl (ex_move rfl) ?_
          refine JL_q (wants_none rfl) rfl (ex_build si_107 rfl (.cons fi_107_0 rfl rfl (.cons fi_107_1 rfl rfl .nil)) (fun w hh => ⟨(hh.cv_ow 1 rfl), (hh.cv_ow 0 rfl), trivial⟩)) ?_
          refine JL_ctx (fun w hh => hh.tokf 1 rfl rfl) ?_
          refine JL_ctx (fun w hh => hh.tokf 1 rfl rfl) ?_
          refine JL_st (wants_none rfl) rfl (st_buildSlice_od (vs := [.agg #[(.slice (some ⟨b52, 0, none⟩) 3 3), (.slice (some ⟨b53, 0, none⟩) 5 5)]]) (B := ((((.slice (some ⟨b52, 0, none⟩) 3 3) : Value).ownBlock.toList ++ []) ++ ((((.slice (some ⟨b53, 0, none⟩) 5 5) : Value).ownBlock.toList ++ []) ++ []))) ([(⟨([p0.border, (w64 (p0.state + p2)), p0.border] : List Int), ([p0.border, (w64 (p0.state + p4.Next)), 0, p4.Write, p0.border] : List Int)⟩ : GRewrite)] : List GRewrite) [1, 0] Try.underlying54 ti_107 zi_107 rfl rfl rfl rfl rfl (fun w hh => (dwv_cons (GRewrite.dw (hh.dw 1 rfl) (hh.dw 0 rfl)) dwv_nil))) (fun b55 => ?_)
          refine JL_bnd fun z56 hz57 => ?_
          refine JL_st (wants_none rfl) rfl (st_append_od 6 0 Try.underlying54 ti_107 zi_107 rfl bi_107 rfl rfl rfl rfl rfl rfl hz57) (fun v58 => ?_)
          refine JL_sk (wants_none rfl) (sk_store_bx' 7 ti_54 rfl rfl (fun w hh => (hh.cv_od 6 rfl)) rfl rfl rfl rfl) ?_
          refine JL_nil ?_
          refine N_inl0 (.inr rfl) hK54 rfl ?_
          refine JL_nil ?_
          refine N_then ?_
          refine J_seq ?_
          refine J_region ?_
          refine JL_q (wants_none rfl) rfl (ex_load_bx 7 ti_54 rfl rfl rfl) ?_
          refine JL_q (wants_none rfl) rfl (ex_assign rfl) ?_
          refine JL_nil ?_
          refine N_then ?_
          refine J_ret ?_
          exact N_ret1 rfl (rv_tmp rfl) (fun w hh => ⟨(v58, (g43_1 ++ ((((.slice (some ⟨b52, 0, none⟩) 3 3) : Value).ownBlock.toList ++ []) ++ ((((.slice (some ⟨b53, 0, none⟩) 5 5) : Value).ownBlock.toList ++ []) ++ [])))), rfl, hh.sel [6] rfl⟩)
      · refine J_skip ?_
        refine N_then ?_
        refine J_seq ?_
        refine J_region ?_
        refine JL_q (wants_none rfl) rfl (ex_load_bx 9 ti_54 rfl rfl rfl) ?_
        refine JL_q (wants_none rfl) rfl (ex_assign rfl) ?_
        refine JL_nil ?_
        refine N_then ?_
        refine J_ret ?_
        exact N_ret1 rfl (rv_tmp rfl) (fun w hh => ⟨(v40, (g25_1 ++ ((((.slice (some ⟨b34, 0, none⟩) 3 3) : Value).ownBlock.toList ++ []) ++ ((((.slice (some ⟨b35, 0, none⟩) 4 4) : Value).ownBlock.toList ++ []) ++ [])))), rfl, hh.sel [8] rfl⟩)

set_option maxHeartbeats 4000000 in
theorem c_impl_alphabet_machineRewrites (A : Nat → Prop) (w : World) (hA : ∀ k, A k → k < w.heap.size) (v0_ : Value) (p0 : Galphabet) (hp0 : Rd A w v0_ p0) (v1_ : Value) (p1 : GMachine) (hp1 : Rd A w v1_ p1) (r : (List GRewrite)) (hr : F_impl_alphabet_machineRewrites p0 p1 = some r) :
    Con Try.prog 177 [v0_, v1_] A w (fun x_ : Value × List Nat => x_.1) (fun x_ => [.od 107 x_.1 r x_.2]) := by
  obtain rfl := Galphabet.open hp0
  obtain ⟨v1_0, rfl, hp1_0⟩ := GMachine.open hp1
  refine Con_of (v := fun (r : (List GRewrite)) (x_ : Value × List Nat) => x_.1) (fs := fun r x_ => [.od 107 x_.1 r x_.2]) Try.func177 rfl Try.ntmps177 rfl ((SH.start hA).start_rd rfl hp1_0) rfl ?_ hr
  unfold F_impl_alphabet_machineRewrites
  refine J_seq ?_
  refine J_region ?_
  refine JL_st (wants_none rfl) rfl (st_box' rfl (fun w hh => (cv_aggs ⟨cv_int, cv_int, trivial⟩))) (fun b1 => ?_)
  refine JL_st (wants_none rfl) rfl (st_box' rfl (fun w hh => (cv_aggs ⟨cv_int, cv_int, (hh.cv 1 rfl), trivial⟩))) (fun b2 => ?_)
  refine JL_q (wants_none rfl) rfl (ex_assign rfl) ?_
  refine JL_nil ?_
  refine N_then ?_
  refine J_seq ?_
  refine J_region ?_
  refine JL_st (wants_none rfl) rfl (st_buildSlice_od (vs := []) (B := ([] : List Nat)) ([] : List GRewrite) [] Try.underlying54 ti_107 zi_107 rfl rfl rfl rfl rfl (fun w hh => dwv_nil)) (fun b3 => ?_)
  refine JL_q (wants_none rfl) rfl (ex_assign rfl) ?_
  refine JL_nil ?_
  refine N_then ?_
  refine J_seq ?_
  refine J_seq ?_
  refine J_region ?_
  refine JL_q (wants_none rfl) rfl (ex_fieldAddr fi_39_2 rfl rfl) ?_
  refine JL_q (wants_none rfl) rfl (ex_load_bx 1 ti_37 rfl rfl rfl) ?_
  refine JL_q (wants_none rfl) rfl (ex_len_rd 3 Try.underlying37 rfl rfl) ?_
  refine JL_q (wants_none rfl) rfl (ex_move rfl) ?_
  refine JL_nil ?_
  refine N_then ?_
  refine J_loop' (S := (List GRewrite) × Int) (G := Value × List Nat) (F_impl_alphabet_machineRewrites_L1 p0 p1) (fun s4 g5 => [(2, .pointer (some ⟨b1, 0, none⟩)), (3, .pointer (some ⟨b2, 0, none⟩)), (5, g5.1), (10, v1_0), (11, .int .i64 (p1.Rules.length : Int)), (12, .int .i64 s4.2)]) (fun s4 g5 => [.bx b1 180 [.int .i64 p0.state, .int .i64 p0.border], .rd v1_0 p1.Rules, .bx b2 39 [.int .i64 p1.Symbols, .int .i64 p1.States, v1_0], .od 107 g5.1 s4.1 g5.2]) (([] : List GRewrite), 0) ((.slice (some ⟨b3, 0, none⟩) 0 0), ([] : List Nat)) ⟨rfl, rfl, rfl, rfl, rfl, rfl, trivial⟩ [2, 3, 1, 0] rfl rfl (fun s4 g5 => ?_) (fun s4 g5 => ?_)
  · obtain ⟨g5_0, g5_1⟩ := g5
    unfold F_impl_alphabet_machineRewrites_L1
    refine J_seq ?_
    refine J_region ?_
    refine JL_q (wants_none rfl) rfl (ex_lss rfl rfl) ?_
    refine JL_nil ?_
    refine N_then ?_
    refine J_seq ?_
    refine J_if rfl (fun h6 => ?_) (fun h6 => ?_)
    · refine J_skip ?_
      refine N_then ?_
      refine J_seq ?_
      refine J_block ?_
      refine J_seq ?_
      refine J_region ?_
      refine JL_q (wants_none rfl) rfl (ex_move rfl) ?_
      refine JL_bnd fun y7 hy8 => ?_
      refine JL_st (wants_none rfl) rfl (st_index 1 Try.underlying37 ti_161 rfl rfl rfl hy8) (fun q9 => ?_)
      refine JL_st (wants_none rfl) rfl (st_load_pt_o 0 (GRule.opens _) ti_161 rfl rfl) (fun _ => ?_)
      refine JL_st (wants_none rfl) rfl (st_alloc zi_161 rfl) (fun b11 => ?_)
      refine JL_q (wants_none rfl) rfl (ex_assign rfl) ?_
      refine JL_sk (wants_none rfl) (sk_store_bx' 0 ti_161 rfl rfl (fun w hh => (cv_aggs ⟨cv_int, cv_int, cv_int, trivial⟩)) rfl rfl rfl rfl) ?_
      refine JL_nil ?_
      refine N_then ?_
      refine J_seq ?_
      refine J_region ?_
      refine JL_q (wants_none rfl) rfl (ex_load_bx_agg 0 ti_161 rfl rfl rfl rfl) ?_
      refine JL_bnd fun r12 hr13 => ?_
      refine JL_call (wants_none rfl) rfl Try.call193 rfl (Ca_of0 fun w hh => c_impl_isRule _ w (fun _ hk => hk.elim) _ _ (GRule.rdmk (Rd.mk_int _ _ _) (Rd.mk_int _ _ _) (Rd.mk_int _ _ _)) _ hr13) (fun _ => ?_)
      refine JL_nil ?_
      refine N_then ?_
      refine J_if rfl (fun h14 => ?_) (fun h14 => ?_)
      · refine J_draw [5] (by kernel_rfl) ?_
        refine JP_take (i := 0) [0, 1, 2, 3, 4] [5] rfl (by kernel_rfl) (by kernel_rfl) (by kernel_rfl) rfl rfl (wants_none rfl) rfl (ex_move rfl) ?_
        refine JP_take (i := 1) [0, 1, 2, 3, 4] [5] rfl (by kernel_rfl) (by kernel_rfl) (by kernel_rfl) rfl rfl (wants_none rfl) rfl (ex_load_bx_agg 2 ti_180 rfl rfl rfl rfl) ?_
        refine JP_take (i := 2) [0, 1, 2, 3, 4] [5] rfl (by kernel_rfl) (by kernel_rfl) (by kernel_rfl) rfl rfl (wants_none rfl) rfl (ex_load_bx_agg 4 ti_39 rfl rfl rfl rfl) ?_
        refine JP_take (i := 3) [0, 1, 2, 3, 4] [5] rfl (by kernel_rfl) (by kernel_rfl) (by kernel_rfl) rfl rfl (wants_none rfl) rfl (ex_move rfl) ?_
        refine JP_take (i := 4) [0, 1, 2, 3, 4] [5] rfl (by kernel_rfl) (by kernel_rfl) (by kernel_rfl) rfl rfl (wants_none rfl) rfl (ex_fieldAddr fi_39_0 rfl rfl) ?_
        refine JP_take (i := 5) [0, 1, 2, 3, 4] [5] rfl (by kernel_rfl) (by kernel_rfl) (by kernel_rfl) rfl rfl (wants_none rfl) rfl (ex_load_bx 4 ti_2 rfl rfl rfl) ?_
        refine JP_bnd fun u15 hu16 => ?_
        refine JP_take (i := 6) [0, 1, 2, 3, 4] [5] rfl (by kernel_rfl) (by kernel_rfl) (by kernel_rfl) rfl rfl (wants_none rfl) rfl (ex_quo rfl rfl (nz_ne hu16)) ?_
        refine JP_take (i := 7) [0, 1, 2, 3, 4] [5] rfl (by kernel_rfl) (by kernel_rfl) (by kernel_rfl) rfl rfl (wants_none rfl) rfl (ex_move rfl) ?_
        refine JP_take (i := 8) [0, 1, 2, 3, 4] [5] rfl (by kernel_rfl) (by kernel_rfl) (by kernel_rfl) rfl rfl (wants_none rfl) rfl (ex_fieldAddr fi_39_0 rfl rfl) ?_
        refine JP_take (i := 9) [0, 1, 2, 3, 4] [5] rfl (by kernel_rfl) (by kernel_rfl) (by kernel_rfl) rfl rfl (wants_none rfl) rfl (ex_load_bx 4 ti_2 rfl rfl rfl) ?_
        refine JP_bnd fun u17 hu18 => ?_
        refine JP_take (i := 10) [0, 1, 2, 3, 4] [5] rfl (by kernel_rfl) (by kernel_rfl) (by kernel_rfl) rfl rfl (wants_none rfl) rfl (ex_rem rfl rfl (nz_ne hu18)) ?_
        refine JP_take (i := 11) [0, 1, 2, 3, 4] [5] rfl (by kernel_rfl) (by kernel_rfl) (by kernel_rfl) rfl rfl (wants_none rfl) rfl (ex_load_bx_agg 0 ti_161 rfl rfl rfl rfl) ?_
        refine JP_go [0, 1, 2, 3, 4] [5] rfl rfl rfl (fun w20 h1_21 hp19 => ?_)
        refine JD_bnd fun r22 hr23 => ?_
        refine JD_one (i := 12) (by kernel_rfl) ?_
        refine JO_call rfl (wants_none rfl) rfl Try.call213 rfl (Ca_self (fun _ => rfl) fun w hh => c_impl_alphabet_rewritesOf _ w (fun _ hk => hk.elim) _ _ (Galphabet.rdmk (Rd.mk_int _ _ _) (Rd.mk_int _ _ _)) _ _ (GMachine.rdmk (Rd.mk_int _ _ _) (Rd.mk_int _ _ _) (hh.rd0 3 rfl)) _ _ _ _ (GRule.rdmk (Rd.mk_int _ _ _) (Rd.mk_int _ _ _) (Rd.mk_int _ _ _)) _ hr23) (fun x24 => ?_)
        obtain ⟨x24_0, x24_1⟩ := x24
        refine JD_bnd fun z25 hz26 => ?_
        refine JD_one (i := 13) (by kernel_rfl) ?_
        refine JO_st rfl (wants_none rfl) rfl (st_append_od 6 0 Try.underlying54 ti_107 zi_107 rfl bi_107 rfl rfl rfl rfl rfl rfl hz26) (sub_od 0 rfl) (fun v27 => ?_)
        refine JD_take (i := 14) hp19 rfl (by kernel_rfl) (by kernel_rfl) (by kernel_rfl) (wants_none rfl) rfl (ex_assign rfl) ?_
        refine JD_done (by kernel_rfl) ?_
        refine N_block ?_
        refine N_then ?_
        refine J_region ?_
        refine JL_q (wants_none rfl) rfl (ex_add rfl rfl) ?_
        refine JL_q (wants_none rfl) rfl (ex_move rfl) ?_
        refine JL_nil ?_
        exact N_next' (v27, (g5_1 ++ x24_1)) ⟨rfl, rfl, rfl, rfl, rfl, rfl, trivial⟩ [3, 4, 5, 6] rfl rfl
      · refine J_skip ?_
        refine N_block ?_
        refine N_then ?_
        refine J_region ?_
        refine JL_q (wants_none rfl) rfl (ex_add rfl rfl) ?_
        refine JL_q (wants_none rfl) rfl (ex_move rfl) ?_
        refine JL_nil ?_
        exact N_next' (g5_0, g5_1) ⟨rfl, rfl, rfl, rfl, rfl, rfl, trivial⟩ [2, 3, 4, 5] rfl rfl
    · refine J_exit ?_
      refine N_then_exit ?_
      exact N_break' (g5_0, g5_1) ⟨rfl, rfl, rfl, rfl, rfl, rfl, trivial⟩ [0, 1, 2, 3] rfl rfl
  · obtain ⟨g5_0, g5_1⟩ := g5
    refine N_then ?_
    refine J_seq ?_
    refine J_region ?_
    refine JL_q (wants_none rfl) rfl (ex_move rfl) ?_
    refine JL_q (wants_none rfl) rfl (ex_assign rfl) ?_
    refine JL_nil ?_
    refine N_then ?_
    refine J_ret ?_
    exact N_ret1 rfl (rv_tmp rfl) (fun w hh => ⟨(g5_0, g5_1), rfl, hh.sel [3] rfl⟩)

set_option maxHeartbeats 4000000 in
theorem c_impl_freeRules (A : Nat → Prop) (w : World) (hA : ∀ k, A k → k < w.heap.size) (v0_ : Value) (p0 : GMachine) (hp0 : Rd A w v0_ p0) (r : (List Int)) (hr : F_impl_freeRules p0 = some r) :
    Con Try.prog 179 [v0_] A w (fun x_ : Value => x_) (fun x_ => [.ow 2 x_ r]) := by
  obtain ⟨v0_0, rfl, hp0_0⟩ := GMachine.open hp0
  refine Con_of (v := fun (r : (List Int)) (x_ : Value) => x_) (fs := fun r x_ => [.ow 2 x_ r]) Try.func179 rfl Try.ntmps179 rfl ((SH.start hA).start_rd rfl hp0_0) rfl ?_ hr
  unfold F_impl_freeRules
  refine J_seq ?_
  refine J_region ?_
  refine JL_st (wants_none rfl) rfl (st_box' rfl (fun w hh => (cv_aggs ⟨cv_int, cv_int, (hh.cv 0 rfl), trivial⟩))) (fun b1 => ?_)
  refine JL_q (wants_none rfl) rfl (ex_assign rfl) ?_
  refine JL_nil ?_
  refine N_then ?_
  refine J_seq ?_
  refine J_region ?_
  refine JL_st (wants_none rfl) rfl (st_buildSlice (vs := []) ([] : List Int) Try.underlying31 ti_2 zi_2 rfl rfl rfl (fun w hh => trivial)) (fun b2 => ?_)
  refine JL_q (wants_none rfl) rfl (ex_assign rfl) ?_
  refine JL_nil ?_
  refine N_then ?_
  refine J_seq ?_
  refine J_seq ?_
  refine J_region ?_
  refine JL_q (wants_none rfl) rfl (ex_fieldAddr fi_39_2 rfl rfl) ?_
  refine JL_q (wants_none rfl) rfl (ex_load_bx 1 ti_37 rfl rfl rfl) ?_
  refine JL_q (wants_none rfl) rfl (ex_len_rd 2 Try.underlying37 rfl rfl) ?_
  refine JL_q (wants_none rfl) rfl (ex_move rfl) ?_
  refine JL_nil ?_
  refine N_then ?_
  refine J_loop' (S := (List Int) × Int) (G := Value) (F_impl_freeRules_L1 p0) (fun s3 g4 => [(3, g4), (8, v0_0), (9, .int .i64 (p0.Rules.length : Int)), (10, .int .i64 s3.2)]) (fun s3 g4 => [.ow 2 g4 s3.1, .rd v0_0 p0.Rules]) (([] : List Int), 0) (.slice (some ⟨b2, 0, none⟩) 0 0) ⟨rfl, rfl, rfl, rfl, trivial⟩ [0, 2] rfl rfl (fun s3 g4 => ?_) (fun s3 g4 => ?_)
  · unfold F_impl_freeRules_L1
    refine J_seq ?_
    refine J_region ?_
    refine JL_q (wants_none rfl) rfl (ex_lss rfl rfl) ?_
    refine JL_nil ?_
    refine N_then ?_
    refine J_seq ?_
    refine J_if rfl (fun h5 => ?_) (fun h5 => ?_)
    · refine J_skip ?_
      refine N_then ?_
      refine J_seq ?_
      refine J_block ?_
      refine J_seq ?_
      refine J_region ?_
      refine JL_q (wants_none rfl) rfl (ex_move rfl) ?_
      refine JL_bnd fun y6 hy7 => ?_
      refine JL_st (wants_none rfl) rfl (st_index 1 Try.underlying37 ti_161 rfl rfl rfl hy7) (fun q8 => ?_)
      refine JL_st (wants_none rfl) rfl (st_load_pt_o 0 (GRule.opens _) ti_161 rfl rfl) (fun _ => ?_)
      refine JL_st (wants_none rfl) rfl (st_alloc zi_161 rfl) (fun b10 => ?_)
      refine JL_q (wants_none rfl) rfl (ex_assign rfl) ?_
      refine JL_sk (wants_none rfl) (sk_store_bx' 0 ti_161 rfl rfl (fun w hh => (cv_aggs ⟨cv_int, cv_int, cv_int, trivial⟩)) rfl rfl rfl rfl) ?_
      refine JL_nil ?_
      refine N_then ?_
      refine J_seq ?_
      refine J_region ?_
      refine JL_q (wants_none rfl) rfl (ex_load_bx_agg 0 ti_161 rfl rfl rfl rfl) ?_
      refine JL_bnd fun r11 hr12 => ?_
      refine JL_call (wants_none rfl) rfl Try.call193 rfl (Ca_of0 fun w hh => c_impl_isRule _ w (fun _ hk => hk.elim) _ _ (GRule.rdmk (Rd.mk_int _ _ _) (Rd.mk_int _ _ _) (Rd.mk_int _ _ _)) _ hr12) (fun _ => ?_)
      refine JL_q (wants_none rfl) rfl (ex_not rfl) ?_
      refine JL_nil ?_
      refine N_then ?_
      refine J_if rfl (fun h13 => ?_) (fun h13 => ?_)
      · refine J_region ?_
        refine JL_q (wants_none rfl) rfl (ex_move rfl) ?_
        refine JL_q (wants_none rfl) rfl (ex_move rfl) ?_
        refine JL_st (wants_none rfl) rfl (st_buildSlice (vs := [.int .i64 s3.2]) ([s3.2] : List Int) Try.underlying31 ti_2 zi_2 rfl rfl rfl (fun w hh => ⟨(Rd.mk_int _ _ _), trivial⟩)) (fun b14 => ?_)
        refine JL_bnd fun z15 hz16 => ?_
        refine JL_st (wants_none rfl) rfl (st_append 3 Try.underlying31 ti_2 zi_2 rfl bi_2 rfl rfl rfl rfl (fun w hh => hh.src_ow 0 rfl) hz16) (fun v17 => ?_)
        refine JL_q (wants_none rfl) rfl (ex_assign rfl) ?_
        refine JL_nil ?_
        refine N_block ?_
        refine N_then ?_
        refine J_region ?_
        refine JL_q (wants_none rfl) rfl (ex_add rfl rfl) ?_
        refine JL_q (wants_none rfl) rfl (ex_move rfl) ?_
        refine JL_nil ?_
        exact N_next' v17 ⟨rfl, rfl, rfl, rfl, trivial⟩ [3, 4] rfl rfl
      · refine J_skip ?_
        refine N_block ?_
        refine N_then ?_
        refine J_region ?_
        refine JL_q (wants_none rfl) rfl (ex_add rfl rfl) ?_
        refine JL_q (wants_none rfl) rfl (ex_move rfl) ?_
        refine JL_nil ?_
        exact N_next' g4 ⟨rfl, rfl, rfl, rfl, trivial⟩ [2, 3] rfl rfl
    · refine J_exit ?_
      refine N_then_exit ?_
      exact N_break' g4 ⟨rfl, rfl, rfl, rfl, trivial⟩ [0, 1] rfl rfl
  · refine N_then ?_
    refine J_seq ?_
    refine J_region ?_
    refine JL_q (wants_none rfl) rfl (ex_move rfl) ?_
    refine JL_q (wants_none rfl) rfl (ex_assign rfl) ?_
    refine JL_nil ?_
    refine N_then ?_
    refine J_ret ?_
    exact N_ret1 rfl (rv_tmp rfl) (fun w hh => ⟨g4, rfl, hh.sel [0] rfl⟩)

set_option maxHeartbeats 4000000 in
theorem c_impl_haltRewrites (A : Nat → Prop) (w : World) (hA : ∀ k, A k → k < w.heap.size) (v0_ : Value) (p0 : GMachine) (hp0 : Rd A w v0_ p0) (r : (List GRewrite) × Int × Int) (hr : F_impl_haltRewrites p0 = some r) :
    Con Try.prog 102 [v0_] A w (fun x_ : Value × List Nat => .tuple #[x_.1, .int .i64 r.2.1, .int .i64 r.2.2]) (fun x_ => [.od 107 x_.1 r.1 x_.2]) := by
  obtain ⟨v0_0, rfl, hp0_0⟩ := GMachine.open hp0
  refine Con_of (v := fun (r : (List GRewrite) × Int × Int) (x_ : Value × List Nat) => .tuple #[x_.1, .int .i64 r.2.1, .int .i64 r.2.2]) (fs := fun r x_ => [.od 107 x_.1 r.1 x_.2]) Try.func102 rfl Try.ntmps102 rfl ((SH.start hA).start_rd rfl hp0_0) rfl ?_ hr
  unfold F_impl_haltRewrites
  refine J_seq ?_
  refine J_region ?_
  refine JL_st (wants_none rfl) rfl (st_box' rfl (fun w hh => (cv_aggs ⟨cv_int, cv_int, (hh.cv 0 rfl), trivial⟩))) (fun b1 => ?_)
  refine JL_q (wants_none rfl) rfl (ex_assign rfl) ?_
  refine JL_q (wants_none rfl) rfl (ex_assign rfl) ?_
  refine JL_q (wants_none rfl) rfl (ex_assign rfl) ?_
  refine JL_nil ?_
  refine N_then ?_
  refine J_seq ?_
  refine J_region ?_
  refine JL_q (wants_none rfl) rfl (ex_load_bx_agg 0 ti_39 rfl rfl rfl rfl) ?_
  refine JL_bnd fun r2 hr3 => ?_
  refine JL_call (wants_none rfl) rfl Try.call172 rfl (Ca_of0 fun w hh => c_impl_eraserOf _ w (fun _ hk => hk.elim) _ _ (GMachine.rdmk (Rd.mk_int _ _ _) (Rd.mk_int _ _ _) (hh.rd0 1 rfl)) _ hr3) (fun _ => ?_)
  refine JL_q (wants_none rfl) rfl (ex_move rfl) ?_
  refine JL_q (wants_none rfl) rfl (ex_extract rfl rfl) ?_
  refine JL_q (wants_none rfl) rfl (ex_extract rfl rfl) ?_
  refine JL_q (wants_none rfl) rfl (ex_extract rfl rfl) ?_
  refine JL_st (wants_none rfl) rfl (st_alloc zi_180 rfl) (fun b4 => ?_)
  refine JL_sk (wants_none rfl) (sk_store_bx' 0 ti_180 rfl rfl (fun w hh => (cv_aggs ⟨cv_int, cv_int, trivial⟩)) rfl rfl rfl rfl) ?_
  refine JL_q (wants_none rfl) rfl (ex_assign rfl) ?_
  refine JL_q (wants_none rfl) rfl (ex_assign rfl) ?_
  refine JL_nil ?_
  refine N_then ?_
  refine J_seq ?_
  refine J_seq ?_
  refine J_region ?_
  refine JL_q (wants_none rfl) rfl (ex_move rfl) ?_
  refine JL_q (wants_none rfl) rfl (ex_neq rfl rfl) ?_
  refine JL_nil ?_
  refine N_then ?_
  refine J_if rfl (fun h5 => ?_) (fun h5 => ?_)
  · refine J_seq ?_
    refine J_region ?_
    refine JL_q (wants_none rfl) rfl (ex_move rfl) ?_
    refine JL_q (wants_none rfl) rfl (ex_assign rfl) ?_
    refine JL_q (wants_none rfl) rfl (ex_assign rfl) ?_
    refine JL_q (wants_none rfl) rfl (ex_assign rfl) ?_
    refine JL_nil ?_
    refine N_then ?_
    refine J_ret ?_
    refine N_then_ret ?_
    refine N_ctx (fun w hh => SH.od_nil (α := GRewrite) 107 hh) ?_
    exact N_ret3 rfl (rv_tmp rfl) (rv_tmp rfl) (rv_tmp rfl) (fun w hh => ⟨((.slice none 0 0 : Value), ([] : List Nat)), rfl, hh.sel [0] rfl⟩)
  · refine J_skip ?_
    refine N_then ?_
    refine J_seq ?_
    refine J_region ?_
    refine JL_q (wants_none rfl) rfl (ex_load_bx_agg 0 ti_180 rfl rfl rfl rfl) ?_
    refine JL_q (wants_none rfl) rfl (ex_load_bx_agg 1 ti_39 rfl rfl rfl rfl) ?_
    refine JL_bnd fun r6 hr7 => ?_
    refine JL_call (wants_none rfl) rfl Try.call177 rfl (Ca_self (fun _ => rfl) fun w hh => c_impl_alphabet_machineRewrites _ w (fun _ hk => hk.elim) _ _ (Galphabet.rdmk (Rd.mk_int _ _ _) (Rd.mk_int _ _ _)) _ _ (GMachine.rdmk (Rd.mk_int _ _ _) (Rd.mk_int _ _ _) (hh.rd0 2 rfl)) _ hr7) (fun x8 => ?_)
    obtain ⟨x8_0, x8_1⟩ := x8
    refine JL_st (wants_none rfl) rfl (st_alloc zi_54 rfl) (fun b9 => ?_)
    refine JL_sk (wants_none rfl) (sk_store_bx' 0 ti_54 rfl rfl (fun w hh => (hh.cv_od 1 rfl)) rfl rfl rfl rfl) ?_
    refine JL_nil ?_
    refine N_then ?_
    refine J_seq ?_
    refine J_region ?_
    refine JL_q (wants_none rfl) rfl (ex_load_bx 0 ti_54 rfl rfl rfl) ?_
    refine JL_q (wants_none rfl) rfl (ex_od 1 rfl (ex_len_ow 1 Try.underlying54 rfl rfl)) ?_
    refine JL_q (wants_none rfl) rfl (ex_assign rfl) ?_
    refine JL_nil ?_
    refine N_then ?_
    refine J_seq ?_
    refine J_region ?_
    refine JL_q (wants_none rfl) rfl (ex_makeFunc rfl) ?_
    refine JL_q (wants_none rfl) rfl (ex_assign rfl) ?_
    refine JL_nil ?_
    refine N_then ?_
    refine J_seq ?_
    refine J_seq ?_
    refine J_region ?_
    refine JL_q (wants_none rfl) rfl (ex_load_bx_agg 3 ti_39 rfl rfl rfl rfl) ?_
    refine JL_bnd fun r10 hr11 => ?_
    refine JL_call (wants_none rfl) rfl Try.call179 rfl (Ca_self (fun _ => rfl) fun w hh => c_impl_freeRules _ w (fun _ hk => hk.elim) _ _ (GMachine.rdmk (Rd.mk_int _ _ _) (Rd.mk_int _ _ _) (hh.rd0 4 rfl)) _ hr11) (fun x12 => ?_)
    refine JL_q (wants_none rfl) rfl (ex_len_ow 0 Try.underlying31 rfl rfl) ?_
    refine JL_q (wants_none rfl) rfl (ex_move rfl) ?_
    refine JL_nil ?_
    refine N_then ?_
    refine J_loop' (S := (List GRewrite) × Int) (G := Value × List Nat) (F_impl_haltRewrites_L1 p0 r2 r10) (fun s13 g14 => [(1, .pointer (some ⟨b1, 0, none⟩)), (5, .pointer (some ⟨b4, 0, none⟩)), (6, .int .i64 r2.2.1), (8, .pointer (some ⟨b9, 0, none⟩)), (9, .int .i64 (r6.length : Int)), (10, .func (.func 178) #[] #[.pointer (some ⟨b9, 0, none⟩)]), (32, x12), (33, .int .i64 (r10.length : Int)), (34, .int .i64 s13.2)]) (fun s13 g14 => [.rd v0_0 p0.Rules, .bx b1 39 [.int .i64 p0.Symbols, .int .i64 p0.States, v0_0], .bx b4 180 [.int .i64 r2.1.state, .int .i64 r2.1.border], .od 107 g14.1 s13.1 g14.2, .bx b9 54 [g14.1], .ow 2 x12 r10]) (r6, 0) (x8_0, x8_1) ⟨rfl, rfl, rfl, rfl, rfl, rfl, rfl, rfl, rfl, trivial⟩ [5, 4, 3, 2, 1, 0] rfl rfl (fun s13 g14 => ?_) (fun s13 g14 => ?_)
    · obtain ⟨g14_0, g14_1⟩ := g14
      unfold F_impl_haltRewrites_L1
      refine J_seq ?_
      refine J_region ?_
      refine JL_q (wants_none rfl) rfl (ex_lss rfl rfl) ?_
      refine JL_nil ?_
      refine N_then ?_
      refine J_seq ?_
      refine J_if rfl (fun h15 => ?_) (fun h15 => ?_)
      · refine J_skip ?_
        refine N_then ?_
        refine J_seq ?_
        refine J_block ?_
        refine J_seq ?_
        refine J_region ?_
        refine JL_bnd fun y16 hy17 => ?_
        refine JL_ow_open (v := x12) 5 rfl hy17 ?_; rintro b18 cap19 rfl
        refine JL_q (wants_none rfl) rfl (ex_index_ow 5 Try.underlying31 ti_2 rfl rfl rfl hy17) ?_
        refine JL_q (wants_none rfl) rfl (ex_load_ow_int 5 ti_2 rfl rfl hy17) ?_
        refine JL_q (wants_none rfl) rfl (ex_assign rfl) ?_
        refine JL_nil ?_
        refine N_then ?_
        refine J_seq ?_
        refine J_draw [] (by kernel_rfl) ?_
        refine JP_take (i := 0) [0, 1, 2, 3, 4, 5] [] rfl (by kernel_rfl) (by kernel_rfl) (by kernel_rfl) rfl rfl (wants_none rfl) rfl (ex_fieldAddr fi_180_0 rfl rfl) ?_
        refine JP_take (i := 1) [0, 1, 2, 3, 4, 5] [] rfl (by kernel_rfl) (by kernel_rfl) (by kernel_rfl) rfl rfl (wants_none rfl) rfl (ex_load_bx 2 ti_2 rfl rfl rfl) ?_
        refine JP_take (i := 2) [0, 1, 2, 3, 4, 5] [] rfl (by kernel_rfl) (by kernel_rfl) (by kernel_rfl) rfl rfl (wants_none rfl) rfl (ex_move rfl) ?_
        refine JP_take (i := 3) [0, 1, 2, 3, 4, 5] [] rfl (by kernel_rfl) (by kernel_rfl) (by kernel_rfl) rfl rfl (wants_none rfl) rfl (ex_fieldAddr fi_39_0 rfl rfl) ?_
        refine JP_take (i := 4) [0, 1, 2, 3, 4, 5] [] rfl (by kernel_rfl) (by kernel_rfl) (by kernel_rfl) rfl rfl (wants_none rfl) rfl (ex_load_bx 1 ti_2 rfl rfl rfl) ?_
        refine JP_bnd fun u21 hu22 => ?_
        refine JP_take (i := 5) [0, 1, 2, 3, 4, 5] [] rfl (by kernel_rfl) (by kernel_rfl) (by kernel_rfl) rfl rfl (wants_none rfl) rfl (ex_quo rfl rfl (nz_ne hu22)) ?_
        refine JP_take (i := 6) [0, 1, 2, 3, 4, 5] [] rfl (by kernel_rfl) (by kernel_rfl) (by kernel_rfl) rfl rfl (wants_none rfl) rfl (ex_add rfl rfl) ?_
        refine JP_take (i := 7) [0, 1, 2, 3, 4, 5] [] rfl (by kernel_rfl) (by kernel_rfl) (by kernel_rfl) rfl rfl (wants_none rfl) rfl (ex_move rfl) ?_
        refine JP_take (i := 8) [0, 1, 2, 3, 4, 5] [] rfl (by kernel_rfl) (by kernel_rfl) (by kernel_rfl) rfl rfl (wants_none rfl) rfl (ex_fieldAddr fi_39_0 rfl rfl) ?_
        refine JP_take (i := 9) [0, 1, 2, 3, 4, 5] [] rfl (by kernel_rfl) (by kernel_rfl) (by kernel_rfl) rfl rfl (wants_none rfl) rfl (ex_load_bx 1 ti_2 rfl rfl rfl) ?_
        refine JP_bnd fun u23 hu24 => ?_
        refine JP_take (i := 10) [0, 1, 2, 3, 4, 5] [] rfl (by kernel_rfl) (by kernel_rfl) (by kernel_rfl) rfl rfl (wants_none rfl) rfl (ex_rem rfl rfl (nz_ne hu24)) ?_
        refine JP_take (i := 11) [0, 1, 2, 3, 4, 5] [] rfl (by kernel_rfl) (by kernel_rfl) (by kernel_rfl) rfl rfl (wants_none rfl) rfl (ex_assign rfl) ?_
        refine JP_take (i := 12) [0, 1, 2, 3, 4, 5] [] rfl (by kernel_rfl) (by kernel_rfl) (by kernel_rfl) rfl rfl (wants_none rfl) rfl (ex_assign rfl) ?_
        refine JP_go [] [] rfl rfl rfl (fun _ _ _ => ?_)
        refine JD_done (by kernel_rfl) ?_
        refine N_then ?_
        refine J_seq ?_
        refine J_region ?_
        refine JL_q (wants_none rfl) rfl (ex_move rfl) ?_
        refine JL_q (wants_none rfl) rfl (ex_move rfl) ?_
        refine JL_st (wants_none rfl) rfl (st_buildSlice (vs := [.int .i64 r2.2.1]) ([r2.2.1] : List Int) Try.underlying31 ti_2 zi_2 rfl rfl rfl (fun w hh => ⟨(Rd.mk_int _ _ _), trivial⟩)) (fun b25 => ?_)
        refine JL_q (wants_none rfl) rfl (ex_move rfl) ?_
        refine JL_q (wants_none rfl) rfl (ex_move rfl) ?_
        refine JL_st (wants_none rfl) rfl (st_buildSlice (vs := [.int .i64 (w64 (r2.1.state + (w64 (Int.tdiv y16 p0.Symbols)))), .int .i64 (Int.tmod y16 p0.Symbols)]) ([(w64 (r2.1.state + (w64 (Int.tdiv y16 p0.Symbols)))), (Int.tmod y16 p0.Symbols)] : List Int) Try.underlying31 ti_2 zi_2 rfl rfl rfl (fun w hh => ⟨(Rd.mk_int _ _ _), (Rd.mk_int _ _ _), trivial⟩)) (fun b26 => ?_)
        refine JL_inlinev (args := [_, _]) (caps := [.pointer (some ⟨b9, 0, none⟩)]) (wants_none rfl) rfl Try.call178 rfl rfl Try.func178 rfl Try.ntmps178 rfl rfl (fun K_ hK27 => ?_)
        refine J_region ?_
        refine JL_q (wants_none rfl) rfl (ex_load_bx 6 ti_54 rfl rfl rfl) ?_
        refine JL_q (wants_none rfl) rfl (ex_move rfl) ?_
        refine JL_q (wants_none rfl) rfl (ex_move rfl) ?_
        refine JL_q (wants_none rfl) rfl (ex_build si_107 rfl (.cons fi_107_0 rfl rfl (.cons fi_107_1 rfl rfl .nil)) (fun w hh => ⟨(hh.cv_ow 0 rfl), (hh.cv_ow 1 rfl), trivial⟩)) ?_
        refine JL_ctx (fun w hh => hh.tokf 0 rfl rfl) ?_
        refine JL_ctx (fun w hh => hh.tokf 2 rfl rfl) ?_
        refine JL_st (wants_none rfl) rfl (st_buildSlice_od (vs := [.agg #[(.slice (some ⟨b26, 0, none⟩) 2 2), (.slice (some ⟨b25, 0, none⟩) 1 1)]]) (B := ((((.slice (some ⟨b26, 0, none⟩) 2 2) : Value).ownBlock.toList ++ []) ++ ((((.slice (some ⟨b25, 0, none⟩) 1 1) : Value).ownBlock.toList ++ []) ++ []))) ([(⟨([(w64 (r2.1.state + (w64 (Int.tdiv y16 p0.Symbols)))), (Int.tmod y16 p0.Symbols)] : List Int), ([r2.2.1] : List Int)⟩ : GRewrite)] : List GRewrite) [1, 0] Try.underlying54 ti_107 zi_107 rfl rfl rfl rfl rfl (fun w hh => (dwv_cons (GRewrite.dw (hh.dw 1 rfl) (hh.dw 0 rfl)) dwv_nil))) (fun b28 => ?_)
        refine JL_bnd fun z29 hz30 => ?_
        refine JL_st (wants_none rfl) rfl (st_append_od 8 0 Try.underlying54 ti_107 zi_107 rfl bi_107 rfl rfl rfl rfl rfl rfl hz30) (fun v31 => ?_)
        refine JL_sk (wants_none rfl) (sk_store_bx' 9 ti_54 rfl rfl (fun w hh => (hh.cv_od 8 rfl)) rfl rfl rfl rfl) ?_
        refine JL_nil ?_
        refine N_inl0 (.inr rfl) hK27 rfl ?_
        refine JL_nil ?_
        refine N_then ?_
        refine J_seq ?_
        refine J_region ?_
        refine JL_q (wants_none rfl) rfl (ex_move rfl) ?_
        refine JL_q (wants_none rfl) rfl (ex_eql rfl rfl) ?_
        refine JL_nil ?_
        refine N_then ?_
        refine J_if rfl (fun h32 => ?_) (fun h32 => ?_)
        · refine J_region ?_
          refine JL_q (wants_none rfl) rfl (ex_move rfl) ?_
          refine JL_q (wants_none rfl) rfl (ex_move rfl) ?_
          refine JL_q (wants_none rfl) rfl (ex_fieldAddr fi_180_1 rfl rfl) ?_
          refine JL_q (wants_none rfl) rfl (ex_load_bx 7 ti_2 rfl rfl rfl) ?_
          refine JL_st (wants_none rfl) rfl (st_buildSlice (vs := [.int .i64 r2.2.1, .int .i64 r2.1.border]) ([r2.2.1, r2.1.border] : List Int) Try.underlying31 ti_2 zi_2 rfl rfl rfl (fun w hh => ⟨(Rd.mk_int _ _ _), (Rd.mk_int _ _ _), trivial⟩)) (fun b33 => ?_)
          refine JL_q (wants_none rfl) rfl (ex_move rfl) ?_
          refine JL_q (wants_none rfl) rfl (ex_fieldAddr fi_180_1 rfl rfl) ?_
          refine JL_q (wants_none rfl) rfl (ex_load_bx 8 ti_2 rfl rfl rfl) ?_
          refine JL_st (wants_none rfl) rfl (st_buildSlice (vs := [.int .i64 (w64 (r2.1.state + (w64 (Int.tdiv y16 p0.Symbols)))), .int .i64 r2.1.border]) ([(w64 (r2.1.state + (w64 (Int.tdiv y16 p0.Symbols)))), r2.1.border] : List Int) Try.underlying31 ti_2 zi_2 rfl rfl rfl (fun w hh => ⟨(Rd.mk_int _ _ _), (Rd.mk_int _ _ _), trivial⟩)) (fun b34 => ?_)
          refine JL_inlinev (args := [_, _]) (caps := [.pointer (some ⟨b9, 0, none⟩)]) (wants_none rfl) rfl Try.call178 rfl rfl Try.func178 rfl Try.ntmps178 rfl rfl (fun K_ hK35 => ?_)
          refine J_region ?_
          refine JL_q (wants_none rfl) rfl (ex_load_bx 11 ti_54 rfl rfl rfl) ?_
          refine JL_q (wants_none rfl) rfl (ex_move rfl) ?_
          refine JL_q (wants_none rfl) rfl (ex_move rfl) ?_
          refine JL_q (wants_none rfl) rfl (ex_build si_107 rfl (.cons fi_107_0 rfl rfl (.cons fi_107_1 rfl rfl .nil)) (fun w hh => ⟨(hh.cv_ow 0 rfl), (hh.cv_ow 1 rfl), trivial⟩)) ?_
          refine JL_ctx (fun w hh => hh.tokf 0 rfl rfl) ?_
          refine JL_ctx (fun w hh => hh.tokf 2 rfl rfl) ?_
          refine JL_st (wants_none rfl) rfl (st_buildSlice_od (vs := [.agg #[(.slice (some ⟨b34, 0, none⟩) 2 2), (.slice (some ⟨b33, 0, none⟩) 2 2)]]) (B := ((((.slice (some ⟨b34, 0, none⟩) 2 2) : Value).ownBlock.toList ++ []) ++ ((((.slice (some ⟨b33, 0, none⟩) 2 2) : Value).ownBlock.toList ++ []) ++ []))) ([(⟨([(w64 (r2.1.state + (w64 (Int.tdiv y16 p0.Symbols)))), r2.1.border] : List Int), ([r2.2.1, r2.1.border] : List Int)⟩ : GRewrite)] : List GRewrite) [1, 0] Try.underlying54 ti_107 zi_107 rfl rfl rfl rfl rfl (fun w hh => (dwv_cons (GRewrite.dw (hh.dw 1 rfl) (hh.dw 0 rfl)) dwv_nil))) (fun b36 => ?_)
          refine JL_bnd fun z37 hz38 => ?_
          refine JL_st (wants_none rfl) rfl (st_append_od 13 0 Try.underlying54 ti_107 zi_107 rfl bi_107 rfl rfl rfl rfl rfl rfl hz38) (fun v39 => ?_)
          refine JL_sk (wants_none rfl) (sk_store_bx' 14 ti_54 rfl rfl (fun w hh => (hh.cv_od 13 rfl)) rfl rfl rfl rfl) ?_
          refine JL_nil ?_
          refine N_inl0 (.inr rfl) hK35 rfl ?_
          refine JL_nil ?_
          refine N_block ?_
          refine N_then ?_
          refine J_region ?_
          refine JL_q (wants_none rfl) rfl (ex_add rfl rfl) ?_
          refine JL_q (wants_none rfl) rfl (ex_move rfl) ?_
          refine JL_nil ?_
          exact N_next' (v39, ((g14_1 ++ ((((.slice (some ⟨b26, 0, none⟩) 2 2) : Value).ownBlock.toList ++ []) ++ ((((.slice (some ⟨b25, 0, none⟩) 1 1) : Value).ownBlock.toList ++ []) ++ []))) ++ ((((.slice (some ⟨b34, 0, none⟩) 2 2) : Value).ownBlock.toList ++ []) ++ ((((.slice (some ⟨b33, 0, none⟩) 2 2) : Value).ownBlock.toList ++ []) ++ [])))) ⟨rfl, rfl, rfl, rfl, rfl, rfl, rfl, rfl, rfl, trivial⟩ [10, 11, 12, 13, 14, 15] rfl rfl
        · refine J_skip ?_
          refine N_block ?_
          refine N_then ?_
          refine J_region ?_
          refine JL_q (wants_none rfl) rfl (ex_add rfl rfl) ?_
          refine JL_q (wants_none rfl) rfl (ex_move rfl) ?_
          refine JL_nil ?_
          exact N_next' (v31, (g14_1 ++ ((((.slice (some ⟨b26, 0, none⟩) 2 2) : Value).ownBlock.toList ++ []) ++ ((((.slice (some ⟨b25, 0, none⟩) 1 1) : Value).ownBlock.toList ++ []) ++ [])))) ⟨rfl, rfl, rfl, rfl, rfl, rfl, rfl, rfl, rfl, trivial⟩ [5, 6, 7, 8, 9, 10] rfl rfl
      · refine J_exit ?_
        refine N_then_exit ?_
        exact N_break' (g14_0, g14_1) ⟨rfl, rfl, rfl, rfl, rfl, rfl, rfl, rfl, rfl, trivial⟩ [0, 1, 2, 3, 4, 5] rfl rfl
    · obtain ⟨g14_0, g14_1⟩ := g14
      refine N_then ?_
      refine J_seq ?_
      refine J_seq ?_
      refine J_region ?_
      refine JL_q (wants_none rfl) rfl (ex_fieldAddr fi_39_0 rfl rfl) ?_
      refine JL_q (wants_none rfl) rfl (ex_load_bx 1 ti_2 rfl rfl rfl) ?_
      refine JL_q (wants_none rfl) rfl (ex_move rfl) ?_
      refine JL_nil ?_
      refine N_then ?_
      refine J_loop' (S := (List GRewrite) × Int) (G := Value × List Nat) (F_impl_haltRewrites_L2 p0 r2) (fun s40 g41 => [(6, .int .i64 r2.2.1), (8, .pointer (some ⟨b9, 0, none⟩)), (9, .int .i64 (r6.length : Int)), (10, .func (.func 178) #[] #[.pointer (some ⟨b9, 0, none⟩)]), (70, .int .i64 p0.Symbols), (71, .int .i64 s40.2)]) (fun s40 g41 => [.od 107 g41.1 s40.1 g41.2, .bx b9 54 [g41.1]]) (s13.1, 0) (g14_0, g14_1) ⟨rfl, rfl, rfl, rfl, rfl, rfl, trivial⟩ [3, 4] rfl rfl (fun s40 g41 => ?_) (fun s40 g41 => ?_)
      · obtain ⟨g41_0, g41_1⟩ := g41
        unfold F_impl_haltRewrites_L2
        refine J_seq ?_
        refine J_region ?_
        refine JL_q (wants_none rfl) rfl (ex_lss rfl rfl) ?_
        refine JL_nil ?_
        refine N_then ?_
        refine J_seq ?_
        refine J_if rfl (fun h42 => ?_) (fun h42 => ?_)
        · refine J_skip ?_
          refine N_then ?_
          refine J_seq ?_
          refine J_block ?_
          refine J_seq ?_
          refine J_region ?_
          refine JL_q (wants_none rfl) rfl (ex_move rfl) ?_
          refine JL_q (wants_none rfl) rfl (ex_assign rfl) ?_
          refine JL_nil ?_
          refine N_then ?_
          refine J_seq ?_
          refine J_region ?_
          refine JL_q (wants_none rfl) rfl (ex_move rfl) ?_
          refine JL_q (wants_none rfl) rfl (ex_move rfl) ?_
          refine JL_st (wants_none rfl) rfl (st_buildSlice (vs := [.int .i64 r2.2.1]) ([r2.2.1] : List Int) Try.underlying31 ti_2 zi_2 rfl rfl rfl (fun w hh => ⟨(Rd.mk_int _ _ _), trivial⟩)) (fun b43 => ?_)
          refine JL_q (wants_none rfl) rfl (ex_move rfl) ?_
          refine JL_q (wants_none rfl) rfl (ex_move rfl) ?_
          refine JL_st (wants_none rfl) rfl (st_buildSlice (vs := [.int .i64 r2.2.1, .int .i64 s40.2]) ([r2.2.1, s40.2] : List Int) Try.underlying31 ti_2 zi_2 rfl rfl rfl (fun w hh => ⟨(Rd.mk_int _ _ _), (Rd.mk_int _ _ _), trivial⟩)) (fun b44 => ?_)
          refine JL_inlinev (args := [_, _]) (caps := [.pointer (some ⟨b9, 0, none⟩)]) (wants_none rfl) rfl Try.call178 rfl rfl Try.func178 rfl Try.ntmps178 rfl rfl (fun K_ hK45 => ?_)
          refine J_region ?_
          refine JL_q (wants_none rfl) rfl (ex_load_bx 3 ti_54 rfl rfl rfl) ?_
          refine JL_q (wants_none rfl) rfl (ex_move rfl) ?_
          refine JL_q (wants_none rfl) rfl (ex_move rfl) ?_
          refine JL_q (wants_none rfl) rfl (ex_build si_107 rfl (.cons fi_107_0 rfl rfl (.cons fi_107_1 rfl rfl .nil)) (fun w hh => ⟨(hh.cv_ow 0 rfl), (hh.cv_ow 1 rfl), trivial⟩)) ?_
          refine JL_ctx (fun w hh => hh.tokf 0 rfl rfl) ?_
          refine JL_ctx (fun w hh => hh.tokf 2 rfl rfl) ?_
          refine JL_st (wants_none rfl) rfl (st_buildSlice_od (vs := [.agg #[(.slice (some ⟨b44, 0, none⟩) 2 2), (.slice (some ⟨b43, 0, none⟩) 1 1)]]) (B := ((((.slice (some ⟨b44, 0, none⟩) 2 2) : Value).ownBlock.toList ++ []) ++ ((((.slice (some ⟨b43, 0, none⟩) 1 1) : Value).ownBlock.toList ++ []) ++ []))) ([(⟨([r2.2.1, s40.2] : List Int), ([r2.2.1] : List Int)⟩ : GRewrite)] : List GRewrite) [1, 0] Try.underlying54 ti_107 zi_107 rfl rfl rfl rfl rfl (fun w hh => (dwv_cons (GRewrite.dw (hh.dw 1 rfl) (hh.dw 0 rfl)) dwv_nil))) (fun b46 => ?_)
          refine JL_bnd fun z47 hz48 => ?_
          refine JL_st (wants_none rfl) rfl (st_append_od 5 0 Try.underlying54 ti_107 zi_107 rfl bi_107 rfl rfl rfl rfl rfl rfl hz48) (fun v49 => ?_)
          refine JL_sk (wants_none rfl) (sk_store_bx' 6 ti_54 rfl rfl (fun w hh => (hh.cv_od 5 rfl)) rfl rfl rfl rfl) ?_
          refine JL_nil ?_
          refine N_inl0 (.inr rfl) hK45 rfl ?_
          refine JL_nil ?_
          refine N_then ?_
          refine J_region ?_
          refine JL_q (wants_none rfl) rfl (ex_move rfl) ?_
          refine JL_q (wants_none rfl) rfl (ex_move rfl) ?_
          refine JL_st (wants_none rfl) rfl (st_buildSlice (vs := [.int .i64 r2.2.1]) ([r2.2.1] : List Int) Try.underlying31 ti_2 zi_2 rfl rfl rfl (fun w hh => ⟨(Rd.mk_int _ _ _), trivial⟩)) (fun b50 => ?_)
          refine JL_q (wants_none rfl) rfl (ex_move rfl) ?_
          refine JL_q (wants_none rfl) rfl (ex_move rfl) ?_
          refine JL_st (wants_none rfl) rfl (st_buildSlice (vs := [.int .i64 s40.2, .int .i64 r2.2.1]) ([s40.2, r2.2.1] : List Int) Try.underlying31 ti_2 zi_2 rfl rfl rfl (fun w hh => ⟨(Rd.mk_int _ _ _), (Rd.mk_int _ _ _), trivial⟩)) (fun b51 => ?_)
          refine JL_inlinev (args := [_, _]) (caps := [.pointer (some ⟨b9, 0, none⟩)]) (wants_none rfl) rfl Try.call178 rfl rfl Try.func178 rfl Try.ntmps178 rfl rfl (fun K_ hK52 => ?_)
          refine J_region ?_
          refine JL_q (wants_none rfl) rfl (ex_load_bx 8 ti_54 rfl rfl rfl) ?_
          refine JL_q (wants_none rfl) rfl (ex_move rfl) ?_
          refine JL_q (wants_none rfl) rfl (ex_move rfl) ?_
          refine JL_q (wants_none rfl) rfl (ex_build si_107 rfl (.cons fi_107_0 rfl rfl (.cons fi_107_1 rfl rfl .nil)) (fun w hh => ⟨(hh.cv_ow 0 rfl), (hh.cv_ow 1 rfl), trivial⟩)) ?_
          refine JL_ctx (fun w hh => hh.tokf 0 rfl rfl) ?_
          refine JL_ctx (fun w hh => hh.tokf 2 rfl rfl) ?_
          refine JL_st (wants_none rfl) rfl (st_buildSlice_od (vs := [.agg #[(.slice (some ⟨b51, 0, none⟩) 2 2), (.slice (some ⟨b50, 0, none⟩) 1 1)]]) (B := ((((.slice (some ⟨b51, 0, none⟩) 2 2) : Value).ownBlock.toList ++ []) ++ ((((.slice (some ⟨b50, 0, none⟩) 1 1) : Value).ownBlock.toList ++ []) ++ []))) ([(⟨([s40.2, r2.2.1] : List Int), ([r2.2.1] : List Int)⟩ : GRewrite)] : List GRewrite) [1, 0] Try.underlying54 ti_107 zi_107 rfl rfl rfl rfl rfl (fun w hh => (dwv_cons (GRewrite.dw (hh.dw 1 rfl) (hh.dw 0 rfl)) dwv_nil))) (fun b53 => ?_)
          refine JL_bnd fun z54 hz55 => ?_
          refine JL_st (wants_none rfl) rfl (st_append_od 10 0 Try.underlying54 ti_107 zi_107 rfl bi_107 rfl rfl rfl rfl rfl rfl hz55) (fun v56 => ?_)
          refine JL_sk (wants_none rfl) (sk_store_bx' 11 ti_54 rfl rfl (fun w hh => (hh.cv_od 10 rfl)) rfl rfl rfl rfl) ?_
          refine JL_nil ?_
          refine N_inl0 (.inr rfl) hK52 rfl ?_
          refine JL_nil ?_
          refine N_block ?_
          refine N_then ?_
          refine J_region ?_
          refine JL_q (wants_none rfl) rfl (ex_add rfl rfl) ?_
          refine JL_q (wants_none rfl) rfl (ex_move rfl) ?_
          refine JL_nil ?_
          exact N_next' (v56, ((g41_1 ++ ((((.slice (some ⟨b44, 0, none⟩) 2 2) : Value).ownBlock.toList ++ []) ++ ((((.slice (some ⟨b43, 0, none⟩) 1 1) : Value).ownBlock.toList ++ []) ++ []))) ++ ((((.slice (some ⟨b51, 0, none⟩) 2 2) : Value).ownBlock.toList ++ []) ++ ((((.slice (some ⟨b50, 0, none⟩) 1 1) : Value).ownBlock.toList ++ []) ++ [])))) ⟨rfl, rfl, rfl, rfl, rfl, rfl, trivial⟩ [10, 11] rfl rfl
        · refine J_exit ?_
          refine N_then_exit ?_
          exact N_break' (g41_0, g41_1) ⟨rfl, rfl, rfl, rfl, rfl, rfl, trivial⟩ [0, 1] rfl rfl
      · obtain ⟨g41_0, g41_1⟩ := g41
        refine N_then ?_
        refine J_seq ?_
        refine J_seq ?_
        refine J_region ?_
        refine JL_q (wants_none rfl) rfl (ex_load_bx 1 ti_54 rfl rfl rfl) ?_
        refine JL_q (wants_none rfl) rfl (ex_od 0 rfl (ex_len_ow 0 Try.underlying54 rfl rfl)) ?_
        refine JL_q (wants_none rfl) rfl (ex_gtr rfl rfl) ?_
        refine JL_nil ?_
        refine N_then ?_
        refine J_if rfl (fun h57 => ?_) (fun h57 => ?_)
        · refine J_seq ?_
          refine J_region ?_
          refine JL_q (wants_none rfl) rfl (ex_assign rfl) ?_
          refine JL_q (wants_none rfl) rfl (ex_assign rfl) ?_
          refine JL_q (wants_none rfl) rfl (ex_assign rfl) ?_
          refine JL_nil ?_
          refine N_then ?_
          refine J_ret ?_
          refine N_then_ret ?_
          refine N_ctx (fun w hh => SH.od_nil (α := GRewrite) 107 hh) ?_
          exact N_ret3 rfl (rv_tmp rfl) (rv_tmp rfl) (rv_tmp rfl) (fun w hh => ⟨((.slice none 0 0 : Value), ([] : List Nat)), rfl, hh.sel [0] rfl⟩)
        · refine J_skip ?_
          refine N_then ?_
          refine J_seq ?_
          refine J_region ?_
          refine JL_q (wants_none rfl) rfl (ex_load_bx 1 ti_54 rfl rfl rfl) ?_
          refine JL_q (wants_none rfl) rfl (ex_move rfl) ?_
          refine JL_q (wants_none rfl) rfl (ex_assign rfl) ?_
          refine JL_q (wants_none rfl) rfl (ex_assign rfl) ?_
          refine JL_q (wants_none rfl) rfl (ex_assign rfl) ?_
          refine JL_nil ?_
          refine N_then ?_
          refine J_ret ?_
          exact N_ret3 rfl (rv_tmp rfl) (rv_tmp rfl) (rv_tmp rfl) (fun w hh => ⟨(g41_0, g41_1), rfl, hh.sel [0] rfl⟩)

end Go.Proofs.Ytfklpjdenigohaa
