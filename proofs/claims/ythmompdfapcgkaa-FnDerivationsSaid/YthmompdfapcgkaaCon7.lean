/-
  Each function of the program computes what its plain function says: printed by program. No condition.
-/
import Derived.Test.YthmompdfapcgkaaFn
import Derived.Test.YthmompdfapcgkaaInf
import Derived.Test.YthmompdfapcgkaaCon4
import Derived.Test.YthmompdfapcgkaaCon5
import Derived.Test.YthmompdfapcgkaaCon6
namespace Go.Proofs.Ythmompdfapcgkaa
open Go Go.Tc Go.Fn
set_option linter.unusedVariables false

set_option maxHeartbeats 40000000 in
theorem c_impl_DerivationOf (A : Nat → Prop) (w : World) (hA : ∀ k, A k → k < w.heap.size) (v0_ : Value) (p0 : (List GRewrite)) (hp0 : Rd A w v0_ p0) (v1_ : Value) (p1 : (List Int)) (hp1 : Rd A w v1_ p1) (v2_ : Value) (p2 : (List Int)) (hp2 : Rd A w v2_ p2) (p3 : Int) (r : (List (List Int)) × Int) (hr : F_impl_DerivationOf p0 p1 p2 p3 = some r) :
    Con Try.prog 27 [v0_, v1_, v2_, .int .i64 p3] A w (fun x_ : Value × List Nat => .tuple #[x_.1, .int .i64 r.2]) (fun x_ => [.od 23 x_.1 r.1 x_.2]) := by
  refine Con_of (v := fun (r : (List (List Int)) × Int) (x_ : Value × List Nat) => .tuple #[x_.1, .int .i64 r.2]) (fs := fun r x_ => [.od 23 x_.1 r.1 x_.2]) Try.func27 rfl Try.ntmps27 rfl ((((SH.start hA).start_rd rfl hp0).start_rd rfl hp1).start_rd rfl hp2) rfl ?_ hr
  unfold F_impl_DerivationOf
  refine J_seq ?_
  refine J_region ?_
  refine JL_q (wants_none rfl) rfl (ex_assign rfl) ?_
  refine JL_q (wants_none rfl) rfl (ex_assign rfl) ?_
  refine JL_nil ?_
  refine N_then ?_
  refine J_seq ?_
  refine J_seq ?_
  refine J_region ?_
  refine JL_q (wants_none rfl) rfl (ex_move rfl) ?_
  refine JL_q (wants_none rfl) rfl (ex_move rfl) ?_
  refine JL_q (wants_none rfl) rfl (ex_move rfl) ?_
  refine JL_q (wants_none rfl) rfl (ex_move rfl) ?_
  refine JL_st (wants_none rfl) rfl (st_buildSlice (vs := [v1_, v2_]) ([p1, p2] : List (List Int)) Try.underlying33 ti_23 zi_23 rfl rfl rfl (fun w hh => ⟨(hh.rd 1 rfl), (hh.rd 0 rfl), trivial⟩)) (fun b1 => ?_)
  refine JL_bnd fun r2 hr3 => ?_
  refine JL_call (wants_none rfl) rfl Try.call57 rfl (Ca_of0 fun w hh => c_impl_searchCode _ w (fun _ hk => hk.elim) _ _ (hh.rd0 3 rfl) _ _ _ (hh.ow0 0 rfl) _ hr3) (fun _ => ?_)
  refine JL_q (wants_none rfl) rfl (ex_assign rfl) ?_
  refine JL_nil ?_
  refine N_then ?_
  refine J_seq ?_
  refine J_region ?_
  refine JL_q (wants_none rfl) rfl (ex_move rfl) ?_
  refine JL_q (wants_none rfl) rfl (ex_neq rfl rfl) ?_
  refine JL_nil ?_
  refine N_then ?_
  refine J_if rfl (fun h4 => ?_) (fun h4 => ?_)
  · refine J_seq ?_
    refine J_region ?_
    refine JL_q (wants_none rfl) rfl (ex_move rfl) ?_
    refine JL_q (wants_none rfl) rfl (ex_assign rfl) ?_
    refine JL_q (wants_none rfl) rfl (ex_assign rfl) ?_
    refine JL_nil ?_
    refine N_then ?_
    refine J_ret ?_
    refine N_then_ret ?_
    refine N_ctx (fun w hh => SH.od_nil (α := (List Int)) 23 hh) ?_
    exact N_ret2 rfl (rv_tmp rfl) (rv_tmp rfl) (fun w hh => ⟨((.slice none 0 0 : Value), ([] : List Nat)), rfl, hh.sel [0] rfl⟩)
  · refine J_skip ?_
    refine N_then ?_
    refine J_seq ?_
    refine J_region ?_
    refine JL_q (wants_none rfl) rfl (ex_move rfl) ?_
    refine JL_q (wants_none rfl) rfl (ex_move rfl) ?_
    refine JL_q (wants_none rfl) rfl (ex_move rfl) ?_
    refine JL_inline (wants_none rfl) rfl Try.call58 rfl Try.func58 rfl Try.ntmps58 rfl rfl (fun K_ hK5 => ?_)
    refine J_seq ?_
    refine J_region ?_
    refine JL_q (wants_none rfl) rfl (ex_assign rfl) ?_
    refine JL_nil ?_
    refine N_then ?_
    refine J_seq ?_
    refine J_region ?_
    refine JL_st (wants_none rfl) rfl (st_makeMap (κ := ByteArray) (ν := Int) (enc := Value.string) (venc := (Value.int .i64))) (fun b6 => ?_)
    refine JL_q (wants_none rfl) rfl (ex_build si_98 rfl (.cons fi_98_1 rfl rfl (.cons fi_98_2 rfl rfl .nil)) (fun w hh => ⟨cv_map, cv_bool, trivial⟩)) ?_
    refine JL_st (wants_none rfl) rfl (st_box' rfl (fun w hh => (cv_aggs ⟨cv_slice, cv_map, cv_bool, trivial⟩))) (fun b7 => ?_)
    refine JL_q (wants_none rfl) rfl (ex_assign rfl) ?_
    refine JL_nil ?_
    refine N_then ?_
    refine J_seq ?_
    refine J_region ?_
    refine JL_q (wants_none rfl) rfl (ex_move rfl) ?_
    refine JL_q (wants_none rfl) rfl (ex_move rfl) ?_
    refine JL_bnd fun r8 hr9 => ?_
    refine JL_call (wants_none rfl) rfl Try.call51 rfl (Ca_self (fun _ => rfl) fun w hh => c_slices_Clone_Sint64_int64 _ w (fun _ hk => hk.elim) _ _ (hh.rd0 4 rfl) _ hr9) (fun x10 => ?_)
    refine JL_q (wants_none rfl) rfl (ex_build si_100 rfl (.cons fi_100_2 rfl rfl .nil) (fun w hh => ⟨(hh.cv_ow 0 rfl), trivial⟩)) ?_
    refine JL_q (wants_none rfl) rfl (ex_buildN [(0, .agg #[.int .i64 0, .int .i64 0, x10], [.int .i64 0, .int .i64 0, x10]), (1, .int .i64 (-1), [.int .i64 (-1)])] si_102 rfl (.cons fi_102_0 rfl rfl rfl (.cons fi_102_1 rfl rfl rfl .nil)) (fun w hh => ⟨(cv_aggs ⟨cv_int, cv_int, (hh.cv_ow 0 rfl), trivial⟩), cv_int, trivial⟩)) ?_
    refine JL_inline (wants_none rfl) rfl Try.call91 rfl Try.func91 rfl Try.ntmps91 rfl rfl (fun K_ hK11 => ?_)
    refine J_seq ?_
    refine J_region ?_
    refine JL_st (wants_none rfl) rfl (st_box' rfl (fun w hh => (cv_aggs ⟨cv_int, cv_int, (hh.cv_ow 0 rfl), cv_int, trivial⟩))) (fun b12 => ?_)
    refine JL_nil ?_
    refine N_then ?_
    refine J_seq ?_
    refine J_region ?_
    refine JL_q (wants_none rfl) rfl (ex_fieldAddr fi_102_0 rfl rfl) ?_
    refine JL_q (wants_none rfl) rfl (ex_fieldAddr fi_100_2 rfl rfl) ?_
    refine JL_q (wants_none rfl) rfl (ex_load_bx 0 ti_23 rfl rfl rfl) ?_
    refine JL_bnd fun r13 hr14 => ?_
    refine JL_call (wants_none rfl) rfl Try.call59 rfl (Ca_of0 fun w hh => c_impl_keyOf _ w (fun _ hk => hk.elim) _ _ (hh.ow0 1 rfl) _ hr14) (fun _ => ?_)
    refine JL_q (wants_none rfl) rfl (ex_assign rfl) ?_
    refine JL_nil ?_
    refine N_then ?_
    refine J_seq ?_
    refine J_region ?_
    refine JL_q (wants_none rfl) rfl (ex_move rfl) ?_
    refine JL_q (wants_none rfl) rfl (ex_nilCheck rfl) ?_
    refine JL_q (wants_none rfl) rfl (ex_fieldAddr fi_98_1 rfl rfl) ?_
    refine JL_q (wants_none rfl) rfl (ex_load_bx 2 ti_96 rfl rfl rfl) ?_
    refine JL_q (wants_none rfl) rfl (ex_move rfl) ?_
    refine JL_q (wants_none rfl) rfl (ex_lookup_ok (x := r13) (z := 0) 3 key_9 Try.underlying96 zi_3 rfl rfl rfl rfl rfl) ?_
    refine JL_q (wants_none rfl) rfl (ex_move rfl) ?_
    refine JL_q (wants_none rfl) rfl (ex_extract rfl rfl) ?_
    refine JL_q (wants_none rfl) rfl (ex_extract rfl rfl) ?_
    refine JL_q (wants_none rfl) rfl (ex_assign rfl) ?_
    refine JL_q (wants_none rfl) rfl (ex_assign rfl) ?_
    refine JL_nil ?_
    refine N_then ?_
    refine J_seq ?_
    refine J_region ?_
    refine JL_q (wants_none rfl) rfl (ex_move rfl) ?_
    refine JL_q (wants_none rfl) rfl (ex_not rfl) ?_
    refine JL_nil ?_
    refine N_then ?_
    refine J_if_true rfl (by rw [show (((mget ([] : List (ByteArray × Int)) r13).isSome)) = false from rfl]; rfl) ?_
    refine J_seq ?_
    refine J_draw [3] (by kernel_rfl) ?_
    refine JP_take (i := 0) [0, 1, 2, 4, 5, 6, 7] [3] rfl (by kernel_rfl) (by kernel_rfl) (by kernel_rfl) rfl rfl (wants_none rfl) rfl (ex_move rfl) ?_
    refine JP_take (i := 1) [0, 1, 2, 4, 5, 6, 7] [3] rfl (by kernel_rfl) (by kernel_rfl) (by kernel_rfl) rfl rfl (wants_none rfl) rfl (ex_nilCheck rfl) ?_
    refine JP_take (i := 2) [0, 1, 2, 4, 5, 6, 7] [3] rfl (by kernel_rfl) (by kernel_rfl) (by kernel_rfl) rfl rfl (wants_none rfl) rfl (ex_fieldAddr fi_98_1 rfl rfl) ?_
    refine JP_take (i := 3) [0, 1, 2, 4, 5, 6, 7] [3] rfl (by kernel_rfl) (by kernel_rfl) (by kernel_rfl) rfl rfl (wants_none rfl) rfl (ex_load_bx 2 ti_96 rfl rfl rfl) ?_
    refine JP_take (i := 4) [0, 1, 2, 4, 5, 6, 7] [3] rfl (by kernel_rfl) (by kernel_rfl) (by kernel_rfl) rfl rfl (wants_none rfl) rfl (ex_move rfl) ?_
    refine JP_take (i := 5) [0, 1, 2, 4, 5, 6, 7] [3] rfl (by kernel_rfl) (by kernel_rfl) (by kernel_rfl) rfl rfl (wants_none rfl) rfl (ex_move rfl) ?_
    refine JP_take (i := 6) [0, 1, 2, 4, 5, 6, 7] [3] rfl (by kernel_rfl) (by kernel_rfl) (by kernel_rfl) rfl rfl (wants_none rfl) rfl (ex_nilCheck rfl) ?_
    refine JP_take (i := 7) [0, 1, 2, 4, 5, 6, 7] [3] rfl (by kernel_rfl) (by kernel_rfl) (by kernel_rfl) rfl rfl (wants_none rfl) rfl (ex_fieldAddr fi_98_0 rfl rfl) ?_
    refine JP_take (i := 8) [0, 1, 2, 4, 5, 6, 7] [3] rfl (by kernel_rfl) (by kernel_rfl) (by kernel_rfl) rfl rfl (wants_none rfl) rfl (ex_load_bx 2 ti_95 rfl rfl rfl) ?_
    refine JP_take (i := 9) [0, 1, 2, 4, 5, 6, 7] [3] rfl (by kernel_rfl) (by kernel_rfl) (by kernel_rfl) rfl rfl (wants_none rfl) rfl (ex_len_nil Try.underlying95 rfl) ?_
    refine JP_go [0, 1, 2, 4, 5, 6, 7] [3] rfl rfl rfl (fun w16 h1_17 hp15 => ?_)
    refine JD_one (i := 10) (by kernel_rfl) ?_
    refine JO_sk rfl (wants_none rfl) (sk_mapUpdate (x := r13) (y := ((0 : Nat) : Int)) 3 key_9 Try.underlying96 rfl rfl rfl rfl rfl rfl rfl rfl) (sub_mp 0 rfl) ?_
    refine JD_done (by kernel_rfl) ?_
    refine N_then ?_
    refine J_draw [2] (by kernel_rfl) ?_
    refine JP_take (i := 0) [0, 1, 3, 4, 5, 6, 7] [2] rfl (by kernel_rfl) (by kernel_rfl) (by kernel_rfl) rfl rfl (wants_none rfl) rfl (ex_move rfl) ?_
    refine JP_take (i := 1) [0, 1, 3, 4, 5, 6, 7] [2] rfl (by kernel_rfl) (by kernel_rfl) (by kernel_rfl) rfl rfl (wants_none rfl) rfl (ex_move rfl) ?_
    refine JP_take (i := 2) [0, 1, 3, 4, 5, 6, 7] [2] rfl (by kernel_rfl) (by kernel_rfl) (by kernel_rfl) rfl rfl (wants_none rfl) rfl (ex_nilCheck rfl) ?_
    refine JP_take (i := 3) [0, 1, 3, 4, 5, 6, 7] [2] rfl (by kernel_rfl) (by kernel_rfl) (by kernel_rfl) rfl rfl (wants_none rfl) rfl (ex_fieldAddr fi_98_0 rfl rfl) ?_
    refine JP_take (i := 5) [0, 1, 3, 4, 5, 6, 7] [2] rfl (by kernel_rfl) (by kernel_rfl) (by kernel_rfl) rfl rfl (wants_none rfl) rfl (ex_load_bx_agg 0 ti_102 rfl rfl rfl rfl) ?_
    refine JP_go [0, 1, 3, 4, 5, 6, 7] [2] rfl rfl rfl (fun w19 h1_20 hp18 => ?_)
    refine JD_two (i := 4) (j := 6) (by kernel_rfl) ?_ ?_
    · refine JO_q rfl (wants_none rfl) rfl (ex_load_bx 2 ti_95 rfl rfl rfl) ?_
      refine JD_one (i := 6) (by kernel_rfl) ?_
      refine JO_ctx (fun w hh => hh.tokf 1 rfl rfl) (tokf_owns (i := 1) rfl) ?_
      refine JO_st rfl (wants_none rfl) rfl (st_buildSlice_od (vs := [.agg #[.int .i64 0, .int .i64 0, x10, .int .i64 (-1)]]) (B := (((x10 : Value).ownBlock.toList ++ []) ++ [])) ([(⟨0, 0, r8, (-1)⟩ : Gfound)] : List Gfound) [0] Try.underlying95 ti_102 zi_102 rfl rfl rfl rfl rfl (fun w hh => (dwv_cons (Gfound.dw (hh.dw 0 rfl)) dwv_nil))) (fun _ hk => nomatch hk) (fun b21 => ?_)
      refine JD_bnd fun z22 hz23 => ?_
      refine JD_one (i := 7) (by kernel_rfl) ?_
      refine JO_ctx (fun w hh => SH.od_nil (α := Gfound) 102 hh) (fun _ hb => hb) ?_
      refine JO_st rfl (wants_none rfl) rfl (st_append_od 0 1 Try.underlying95 ti_102 zi_102 rfl bi_102 rfl rfl rfl rfl rfl rfl hz23) (fun _ hk => absurd hk List.not_mem_nil) (fun v24 => ?_)
      refine JD_take (i := 8) hp18 rfl (by kernel_rfl) (by kernel_rfl) (by kernel_rfl) (wants_none rfl) rfl (ex_nilCheck rfl) ?_
      refine JD_take (i := 9) hp18 rfl (by kernel_rfl) (by kernel_rfl) (by kernel_rfl) (wants_none rfl) rfl (ex_fieldAddr fi_98_0 rfl rfl) ?_
      refine JD_one (i := 10) (by kernel_rfl) ?_
      refine JO_sk rfl (wants_none rfl) (sk_store_bx' 5 ti_95 rfl rfl (fun w hh => (hh.cv_od 0 rfl)) rfl rfl rfl rfl) (sub_bx 0 rfl) ?_
      refine JD_done (by kernel_rfl) ?_
      refine N_inl0 (.inr rfl) hK11 rfl ?_
      refine JL_nil ?_
      refine N_then ?_
      refine J_seq ?_
      refine J_seq ?_
      refine J_region ?_
      refine JL_q (wants_none rfl) rfl (ex_assign rfl) ?_
      refine JL_nil ?_
      refine N_then ?_
      refine J_ctx (fun w hh => hh.od_ow 0 rfl) ?_
      refine J_loop' (S := (List Gfound) × List (ByteArray × Int) × Bool × Int) (G := Value) (F_impl_DerivationOf_L1 p0 p2 p3) (fun s25 g26 => [(0, v0_), (2, .int .i64 p3), (7, .pointer (some ⟨b7, 0, none⟩)), (8, .int .i64 s25.2.2.2)]) (fun s25 g26 => [.rd v0_ p0, .ow 102 g26 s25.1, mpf Value.string (Value.int .i64) b6 s25.2.1, .bx b7 98 [g26, .map (some b6), .bool s25.2.2.1], .rd v2_ p2]) (z22, (mput ([] : List (ByteArray × Int)) r13 ((0 : Nat) : Int)), true, 0) v24 ⟨rfl, rfl, rfl, rfl, trivial⟩ [10, 0, 6, 5, 8] rfl rfl (fun s25 g26 => ?_) (fun s25 g26 => ?_)
      · unfold F_impl_DerivationOf_L1
        refine J_seq ?_
        refine J_seq ?_
        refine J_region ?_
        refine JL_q (wants_none rfl) rfl (ex_move rfl) ?_
        refine JL_q (wants_none rfl) rfl (ex_move rfl) ?_
        refine JL_q (wants_none rfl) rfl (ex_nilCheck rfl) ?_
        refine JL_q (wants_none rfl) rfl (ex_fieldAddr fi_98_0 rfl rfl) ?_
        refine JL_q (wants_none rfl) rfl (ex_load_bx 3 ti_95 rfl rfl rfl) ?_
        refine JL_q (wants_none rfl) rfl (ex_len_ow 1 Try.underlying95 rfl rfl) ?_
        refine JL_q (wants_none rfl) rfl (ex_lss rfl rfl) ?_
        refine JL_nil ?_
        refine N_then ?_
        refine J_if rfl (fun h27 => ?_) (fun h27 => ?_)
        · refine J_skip ?_
          refine N_then ?_
          refine J_seq ?_
          refine J_block ?_
          refine J_seq ?_
          refine J_seq ?_
          refine J_region ?_
          refine JL_q (wants_none rfl) rfl (ex_move rfl) ?_
          refine JL_q (wants_none rfl) rfl (ex_move rfl) ?_
          refine JL_q (wants_none rfl) rfl (ex_eql rfl rfl) ?_
          refine JL_nil ?_
          refine N_then ?_
          refine J_if rfl (fun h28 => ?_) (fun h28 => ?_)
          · refine J_seq ?_
            refine J_region ?_
            refine JL_q (wants_none rfl) rfl (ex_move rfl) ?_
            refine JL_q (wants_none rfl) rfl (ex_nilCheck rfl) ?_
            refine JL_q (wants_none rfl) rfl (ex_fieldAddr fi_98_2 rfl rfl) ?_
            refine JL_sk (wants_none rfl) (sk_store_bx' 3 ti_4 rfl rfl (fun w hh => cv_bool) rfl rfl rfl rfl) ?_
            refine JL_nil ?_
            refine N_then ?_
            refine J_exit ?_
            refine N_then_exit ?_
            refine N_block_exit_ne rfl ?_
            refine N_then_exit ?_
            exact N_break' g26 ⟨rfl, rfl, rfl, rfl, trivial⟩ [0, 1, 2, 3, 4] rfl rfl
          · refine J_skip ?_
            refine N_then ?_
            refine J_seq ?_
            refine J_region ?_
            refine JL_q (wants_none rfl) rfl (ex_move rfl) ?_
            refine JL_q (wants_none rfl) rfl (ex_move rfl) ?_
            refine JL_q (wants_none rfl) rfl (ex_nilCheck rfl) ?_
            refine JL_q (wants_none rfl) rfl (ex_fieldAddr fi_98_0 rfl rfl) ?_
            refine JL_q (wants_none rfl) rfl (ex_load_bx 3 ti_95 rfl rfl rfl) ?_
            refine JL_q (wants_none rfl) rfl (ex_move rfl) ?_
            refine JL_bnd fun y29 hy30 => ?_
            refine JL_ow_open (v := g26) 1 rfl hy30 ?_; rintro b31 cap32 rfl
            refine JL_q (wants_none rfl) rfl (ex_index_ow 1 Try.underlying95 ti_102 rfl rfl rfl hy30) ?_
            refine JL_q (wants_none rfl) rfl (ex_fieldAddr fi_102_0 rfl rfl) ?_
            refine JL_q (wants_none rfl) rfl (ex_fieldAddr fi_100_2 rfl rfl) ?_
            refine JL_st (wants_none rfl) rfl (st_load_ow_part 1 (opens_sl _) (Part.trans (Gfound.at_move _) (Gmove.at_word _)) rfl ti_23 rfl rfl hy30) (fun v33 => ?_)
            refine JL_bnd fun r34 hr35 => ?_
            refine JL_call (wants_none rfl) rfl Try.call64 rfl (Ca_self (fun _ => rfl) fun w hh => c_impl_movesOf _ w (fun _ hk => hk.elim) _ _ (hh.rd0 1 rfl) _ _ (hh.rd0 0 rfl) _ hr35) (fun x36 => ?_)
            obtain ⟨x36_0, x36_1⟩ := x36
            refine JL_q (wants_none rfl) rfl (ex_move rfl) ?_
            refine JL_q (wants_none rfl) rfl (ex_extract rfl rfl) ?_
            refine JL_q (wants_none rfl) rfl (ex_extract rfl rfl) ?_
            refine JL_q (wants_none rfl) rfl (ex_assign rfl) ?_
            refine JL_q (wants_none rfl) rfl (ex_assign rfl) ?_
            refine JL_nil ?_
            refine N_then ?_
            refine J_seq ?_
            refine J_cut' (S' := Bool) (G' := Unit) (fun s37 _ => [(0, v0_), (2, .int .i64 p3), (7, .pointer (some ⟨b7, 0, none⟩)), (8, .int .i64 s25.2.2.2), (9, x36_0)]) (fun s37 _ => [.rd v0_ p0, .ow 102 (.slice (some ⟨b31, 0, none⟩) s25.1.length cap32) s25.1, mpf Value.string (Value.int .i64) b6 s25.2.1, .bx b7 98 [(.slice (some ⟨b31, 0, none⟩) s25.1.length cap32), .map (some b6), .bool s37], .od 100 x36_0 r34.1 x36_1, .rd v2_ p2]) ?_ (fun s37 g38 => ?_)
            · refine J_region ?_
              refine JL_q (wants_none rfl) rfl (ex_move rfl) ?_
              refine JL_q (wants_none rfl) rfl (ex_move rfl) ?_
              refine JL_q (wants_none rfl) rfl (ex_nilCheck rfl) ?_
              refine JL_q (wants_none rfl) rfl (ex_fieldAddr fi_98_2 rfl rfl) ?_
              refine JL_q (wants_none rfl) rfl (ex_load_bx 5 ti_4 rfl rfl rfl) ?_
              refine JL_q (wants_none rfl) rfl (ex_move rfl) ?_
              refine JL_cond (fun h39 => ?_) (fun h39 => ?_)
              · refine JL_q (wants_some rfl rfl rfl h39) rfl (ex_move rfl) ?_
                refine JL_q (wants_some rfl rfl rfl h39) rfl (ex_not rfl) ?_
                refine JL_q (wants_none rfl) rfl (ex_pick_true rfl h39 rfl) ?_
                refine JL_q (wants_none rfl) rfl (ex_nilCheck rfl) ?_
                refine JL_q (wants_none rfl) rfl (ex_fieldAddr fi_98_2 rfl rfl) ?_
                refine JL_sk (wants_none rfl) (sk_store_bx' 5 ti_4 rfl rfl (fun w hh => cv_bool) rfl rfl rfl rfl) ?_
                refine JL_nil ?_
                exact N_meet' () ⟨rfl, rfl, rfl, rfl, rfl, trivial⟩ [2, 3, 4, 5, 0, 6] rfl rfl
              · refine JL_passed rfl rfl rfl h39 ?_
                refine JL_passed rfl rfl rfl h39 ?_
                refine JL_q (wants_none rfl) rfl (ex_pick_false rfl h39 rfl) ?_
                refine JL_q (wants_none rfl) rfl (ex_nilCheck rfl) ?_
                refine JL_q (wants_none rfl) rfl (ex_fieldAddr fi_98_2 rfl rfl) ?_
                refine JL_sk (wants_none rfl) (sk_store_bx' 5 ti_4 rfl rfl (fun w hh => cv_bool) rfl rfl rfl rfl) ?_
                refine JL_nil ?_
                exact N_meet' () ⟨rfl, rfl, rfl, rfl, rfl, trivial⟩ [2, 3, 4, 5, 0, 6] rfl rfl
            · refine N_then ?_
              refine J_seq ?_
              refine J_region ?_
              refine JL_q (wants_none rfl) rfl (ex_move rfl) ?_
              refine JL_q (wants_none rfl) rfl (ex_od 4 rfl (ex_len_ow 4 Try.underlying108 rfl rfl)) ?_
              refine JL_q (wants_none rfl) rfl (ex_move rfl) ?_
              refine JL_nil ?_
              refine N_then ?_
              refine J_loop' (S := (List Gfound) × List (ByteArray × Int) × Int) (G := Value) (F_impl_DerivationOf_L2 p2 s25 r34) (fun s40 g41 => [(0, v0_), (2, .int .i64 p3), (7, .pointer (some ⟨b7, 0, none⟩)), (8, .int .i64 s25.2.2.2), (62, x36_0), (63, .int .i64 (r34.1.length : Int)), (64, .int .i64 s40.2.2)]) (fun s40 g41 => [.rd v0_ p0, .ow 102 g41 s40.1, mpf Value.string (Value.int .i64) b6 s40.2.1, .bx b7 98 [g41, .map (some b6), .bool s37], .od 100 x36_0 r34.1 x36_1, .rd v2_ p2]) (s25.1, s25.2.1, 0) (.slice (some ⟨b31, 0, none⟩) s25.1.length cap32) ⟨rfl, rfl, rfl, rfl, rfl, rfl, rfl, trivial⟩ [0, 1, 2, 3, 4, 5] rfl rfl (fun s40 g41 => ?_) (fun s40 g41 => ?_)
              · unfold F_impl_DerivationOf_L2
                refine J_seq ?_
                refine J_region ?_
                refine JL_q (wants_none rfl) rfl (ex_lss rfl rfl) ?_
                refine JL_nil ?_
                refine N_then ?_
                refine J_seq ?_
                refine J_if rfl (fun h42 => ?_) (fun h42 => ?_)
                · refine J_skip ?_
                  refine N_then ?_
                  refine J_seq ?_
                  refine J_block ?_
                  refine J_seq ?_
                  refine J_region ?_
                  refine JL_bnd fun y43 hy44 => ?_
                  refine JL_od_open (v := x36_0) 4 rfl hy44 ?_; rintro b45 cap46 rfl
                  refine JL_q (wants_none rfl) rfl (ex_od 4 rfl (ex_index_ow 4 Try.underlying108 ti_100 rfl rfl rfl hy44)) ?_
                  refine JL_st (wants_none rfl) rfl (st_od 4 rfl (st_load_ow_o 4 (Gmove.opens _) ti_100 rfl rfl hy44) (fun _ => rfl)) (fun v47 => ?_)
                  refine JL_st (wants_none rfl) rfl (st_alloc zi_100 rfl) (fun b48 => ?_)
                  refine JL_sk (wants_none rfl) (sk_store_bx' 0 ti_100 rfl rfl (fun w hh => (cv_aggs ⟨cv_int, cv_int, (hh.cv 1 rfl), trivial⟩)) rfl rfl rfl rfl) ?_
                  refine JL_nil ?_
                  refine N_then ?_
                  refine J_seq ?_
                  refine J_region ?_
                  refine JL_q (wants_none rfl) rfl (ex_move rfl) ?_
                  refine JL_q (wants_none rfl) rfl (ex_load_bx_agg 0 ti_100 rfl rfl rfl rfl) ?_
                  refine JL_q (wants_none rfl) rfl (ex_move rfl) ?_
                  refine JL_q (wants_none rfl) rfl (ex_buildN [(0, .agg #[.int .i64 y43.rule, .int .i64 y43.at_, v47], [.int .i64 y43.rule, .int .i64 y43.at_, v47]), (1, .int .i64 s25.2.2.2, [.int .i64 s25.2.2.2])] si_102 rfl (.cons fi_102_0 rfl rfl rfl (.cons fi_102_1 rfl rfl rfl .nil)) (fun w hh => ⟨(cv_aggs ⟨cv_int, cv_int, (hh.cv 1 rfl), trivial⟩), cv_int, trivial⟩)) ?_
                  refine JL_inline (wants_none rfl) rfl Try.call91 rfl Try.func91 rfl Try.ntmps91 rfl rfl (fun K_ hK49 => ?_)
                  refine J_seq ?_
                  refine J_region ?_
                  refine JL_st (wants_none rfl) rfl (st_box' rfl (fun w hh => (cv_aggs ⟨cv_int, cv_int, (hh.cv 1 rfl), cv_int, trivial⟩))) (fun b50 => ?_)
                  refine JL_nil ?_
                  refine N_then ?_
                  refine J_seq ?_
                  refine J_region ?_
                  refine JL_q (wants_none rfl) rfl (ex_fieldAddr fi_102_0 rfl rfl) ?_
                  refine JL_q (wants_none rfl) rfl (ex_fieldAddr fi_100_2 rfl rfl) ?_
                  refine JL_q (wants_none rfl) rfl (ex_load_bx 0 ti_23 rfl rfl rfl) ?_
                  refine JL_bnd fun r51 hr52 => ?_
                  refine JL_call (wants_none rfl) rfl Try.call59 rfl (Ca_of0 fun w hh => c_impl_keyOf _ w (fun _ hk => hk.elim) _ _ (hh.rd0 2 rfl) _ hr52) (fun _ => ?_)
                  refine JL_q (wants_none rfl) rfl (ex_assign rfl) ?_
                  refine JL_nil ?_
                  refine N_then ?_
                  refine J_seq ?_
                  refine J_region ?_
                  refine JL_q (wants_none rfl) rfl (ex_move rfl) ?_
                  refine JL_q (wants_none rfl) rfl (ex_nilCheck rfl) ?_
                  refine JL_q (wants_none rfl) rfl (ex_fieldAddr fi_98_1 rfl rfl) ?_
                  refine JL_q (wants_none rfl) rfl (ex_load_bx 6 ti_96 rfl rfl rfl) ?_
                  refine JL_q (wants_none rfl) rfl (ex_move rfl) ?_
                  refine JL_q (wants_none rfl) rfl (ex_lookup_ok (x := r51) (z := 0) 5 key_9 Try.underlying96 zi_3 rfl rfl rfl rfl rfl) ?_
                  refine JL_q (wants_none rfl) rfl (ex_move rfl) ?_
                  refine JL_q (wants_none rfl) rfl (ex_extract rfl rfl) ?_
                  refine JL_q (wants_none rfl) rfl (ex_extract rfl rfl) ?_
                  refine JL_q (wants_none rfl) rfl (ex_assign rfl) ?_
                  refine JL_q (wants_none rfl) rfl (ex_assign rfl) ?_
                  refine JL_nil ?_
                  refine N_then ?_
                  refine J_seq ?_
                  refine J_region ?_
                  refine JL_q (wants_none rfl) rfl (ex_move rfl) ?_
                  refine JL_q (wants_none rfl) rfl (ex_not rfl) ?_
                  refine JL_nil ?_
                  refine N_then ?_
                  refine J_if rfl (fun h53 => ?_) (fun h53 => ?_)
                  · refine J_seq ?_
                    refine J_draw [5] (by kernel_rfl) ?_
                    refine JP_take (i := 0) [0, 1, 2, 3, 4, 6, 7, 8] [5] rfl (by kernel_rfl) (by kernel_rfl) (by kernel_rfl) rfl rfl (wants_none rfl) rfl (ex_move rfl) ?_
                    refine JP_take (i := 1) [0, 1, 2, 3, 4, 6, 7, 8] [5] rfl (by kernel_rfl) (by kernel_rfl) (by kernel_rfl) rfl rfl (wants_none rfl) rfl (ex_nilCheck rfl) ?_
                    refine JP_take (i := 2) [0, 1, 2, 3, 4, 6, 7, 8] [5] rfl (by kernel_rfl) (by kernel_rfl) (by kernel_rfl) rfl rfl (wants_none rfl) rfl (ex_fieldAddr fi_98_1 rfl rfl) ?_
                    refine JP_take (i := 3) [0, 1, 2, 3, 4, 6, 7, 8] [5] rfl (by kernel_rfl) (by kernel_rfl) (by kernel_rfl) rfl rfl (wants_none rfl) rfl (ex_load_bx 5 ti_96 rfl rfl rfl) ?_
                    refine JP_take (i := 4) [0, 1, 2, 3, 4, 6, 7, 8] [5] rfl (by kernel_rfl) (by kernel_rfl) (by kernel_rfl) rfl rfl (wants_none rfl) rfl (ex_move rfl) ?_
                    refine JP_take (i := 5) [0, 1, 2, 3, 4, 6, 7, 8] [5] rfl (by kernel_rfl) (by kernel_rfl) (by kernel_rfl) rfl rfl (wants_none rfl) rfl (ex_move rfl) ?_
                    refine JP_take (i := 6) [0, 1, 2, 3, 4, 6, 7, 8] [5] rfl (by kernel_rfl) (by kernel_rfl) (by kernel_rfl) rfl rfl (wants_none rfl) rfl (ex_nilCheck rfl) ?_
                    refine JP_take (i := 7) [0, 1, 2, 3, 4, 6, 7, 8] [5] rfl (by kernel_rfl) (by kernel_rfl) (by kernel_rfl) rfl rfl (wants_none rfl) rfl (ex_fieldAddr fi_98_0 rfl rfl) ?_
                    refine JP_take (i := 8) [0, 1, 2, 3, 4, 6, 7, 8] [5] rfl (by kernel_rfl) (by kernel_rfl) (by kernel_rfl) rfl rfl (wants_none rfl) rfl (ex_load_bx 5 ti_95 rfl rfl rfl) ?_
                    refine JP_take (i := 9) [0, 1, 2, 3, 4, 6, 7, 8] [5] rfl (by kernel_rfl) (by kernel_rfl) (by kernel_rfl) rfl rfl (wants_none rfl) rfl (ex_len_ow 4 Try.underlying95 rfl rfl) ?_
                    refine JP_go [0, 1, 2, 3, 4, 6, 7, 8] [5] rfl rfl rfl (fun w55 h1_56 hp54 => ?_)
                    refine JD_one (i := 10) (by kernel_rfl) ?_
                    refine JO_sk rfl (wants_none rfl) (sk_mapUpdate (x := r51) (y := (s40.1.length : Int)) 5 key_9 Try.underlying96 rfl rfl rfl rfl rfl rfl rfl rfl) (sub_mp 0 rfl) ?_
                    refine JD_done (by kernel_rfl) ?_
                    refine N_then ?_
                    refine J_draw [4, 6] (by kernel_rfl) ?_
                    refine JP_take (i := 0) [0, 1, 2, 3, 5, 7, 8] [4, 6] rfl (by kernel_rfl) (by kernel_rfl) (by kernel_rfl) rfl rfl (wants_none rfl) rfl (ex_move rfl) ?_
                    refine JP_take (i := 1) [0, 1, 2, 3, 5, 7, 8] [4, 6] rfl (by kernel_rfl) (by kernel_rfl) (by kernel_rfl) rfl rfl (wants_none rfl) rfl (ex_move rfl) ?_
                    refine JP_take (i := 2) [0, 1, 2, 3, 5, 7, 8] [4, 6] rfl (by kernel_rfl) (by kernel_rfl) (by kernel_rfl) rfl rfl (wants_none rfl) rfl (ex_nilCheck rfl) ?_
                    refine JP_take (i := 3) [0, 1, 2, 3, 5, 7, 8] [4, 6] rfl (by kernel_rfl) (by kernel_rfl) (by kernel_rfl) rfl rfl (wants_none rfl) rfl (ex_fieldAddr fi_98_0 rfl rfl) ?_
                    refine JP_take (i := 5) [0, 1, 2, 3, 5, 7, 8] [4, 6] rfl (by kernel_rfl) (by kernel_rfl) (by kernel_rfl) rfl rfl (wants_none rfl) rfl (ex_load_bx_agg 0 ti_102 rfl rfl rfl rfl) ?_
                    refine JP_go [0, 1, 2, 3, 5, 7, 8] [4, 6] rfl rfl rfl (fun w58 h1_59 hp57 => ?_)
                    refine JD_two (i := 4) (j := 6) (by kernel_rfl) ?_ ?_
                    · refine JO_q rfl (wants_none rfl) rfl (ex_load_bx 6 ti_95 rfl rfl rfl) ?_
                      refine JD_one (i := 6) (by kernel_rfl) ?_
                      refine JO_st rfl (wants_none rfl) rfl (st_buildSlice (vs := [.agg #[.int .i64 y43.rule, .int .i64 y43.at_, v47, .int .i64 s25.2.2.2]]) ([(⟨y43.rule, y43.at_, y43.word, s25.2.2.2⟩ : Gfound)] : List Gfound) Try.underlying95 ti_102 zi_102 rfl rfl rfl (fun w hh => ⟨(Gfound.rdmk (Rd.mk_int _ _ _) (Rd.mk_int _ _ _) (hh.rd 2 rfl) (Rd.mk_int _ _ _)), trivial⟩)) (fun _ hk => nomatch hk) (fun b60 => ?_)
                      refine JD_bnd fun z61 hz62 => ?_
                      refine JD_one (i := 7) (by kernel_rfl) ?_
                      refine JO_st rfl (wants_none rfl) rfl (st_append 5 Try.underlying95 ti_102 zi_102 rfl bi_102 rfl rfl rfl rfl (fun w hh => hh.src_ow 0 rfl) hz62) (sub_ow 0 rfl) (fun v63 => ?_)
                      refine JD_take (i := 8) hp57 rfl (by kernel_rfl) (by kernel_rfl) (by kernel_rfl) (wants_none rfl) rfl (ex_nilCheck rfl) ?_
                      refine JD_take (i := 9) hp57 rfl (by kernel_rfl) (by kernel_rfl) (by kernel_rfl) (wants_none rfl) rfl (ex_fieldAddr fi_98_0 rfl rfl) ?_
                      refine JD_one (i := 10) (by kernel_rfl) ?_
                      refine JO_sk rfl (wants_none rfl) (sk_store_bx' 7 ti_95 rfl rfl (fun w hh => (hh.cv_ow 5 rfl)) rfl rfl rfl rfl) (sub_bx 1 rfl) ?_
                      refine JD_done (by kernel_rfl) ?_
                      refine N_inl0 (.inr rfl) hK49 rfl ?_
                      refine JL_nil ?_
                      refine N_then ?_
                      refine J_seq ?_
                      refine J_region ?_
                      refine JL_q (wants_none rfl) rfl (ex_move rfl) ?_
                      refine JL_q (wants_none rfl) rfl (ex_nilCheck rfl) ?_
                      refine JL_q (wants_none rfl) rfl (ex_fieldAddr fi_98_0 rfl rfl) ?_
                      refine JL_q (wants_none rfl) rfl (ex_load_bx 7 ti_95 rfl rfl rfl) ?_
                      refine JL_q (wants_none rfl) rfl (ex_len_ow 5 Try.underlying95 rfl rfl) ?_
                      refine JL_q (wants_none rfl) rfl (ex_eql rfl rfl) ?_
                      refine JL_nil ?_
                      refine N_then ?_
                      refine J_if rfl (fun h64 => ?_) (fun h64 => ?_)
                      · refine J_seq ?_
                        refine J_region ?_
                        refine JL_q (wants_none rfl) rfl (ex_move rfl) ?_
                        refine JL_q (wants_none rfl) rfl (ex_nilCheck rfl) ?_
                        refine JL_q (wants_none rfl) rfl (ex_fieldAddr fi_98_2 rfl rfl) ?_
                        refine JL_sk (wants_none rfl) (sk_store_bx' 7 ti_4 rfl rfl (fun w hh => cv_bool) rfl rfl rfl rfl) ?_
                        refine JL_nil ?_
                        refine N_then ?_
                        refine J_seq ?_
                        refine J_region ?_
                        refine JL_q (wants_none rfl) rfl (ex_move rfl) ?_
                        refine JL_q (wants_none rfl) rfl (ex_assign rfl) ?_
                        refine JL_nil ?_
                        refine N_then ?_
                        refine J_ret ?_
                        refine N_block_ret ?_
                        refine N_then_ret ?_
                        refine N_round_ret ?_
                        refine N_block_ret ?_
                        refine N_then_ret ?_
                        refine N_round_reti ?_
                        refine N_then_ret ?_
                        refine N_inl1 hK5 rfl (rv_tmp rfl) ?_
                        refine JL_q (wants_none rfl) rfl (ex_assign rfl) ?_
                        refine JL_nil ?_
                        refine N_then ?_
                        refine J_seq ?_
                        refine J_draw [] (by kernel_rfl) ?_
                        refine JP_take (i := 0) [0, 1, 2, 3, 4, 5, 6, 7, 8, 9] [] rfl (by kernel_rfl) (by kernel_rfl) (by kernel_rfl) rfl rfl (wants_none rfl) rfl (ex_move rfl) ?_
                        refine JP_take (i := 1) [0, 1, 2, 3, 4, 5, 6, 7, 8, 9] [] rfl (by kernel_rfl) (by kernel_rfl) (by kernel_rfl) rfl rfl (wants_none rfl) rfl (ex_nilCheck rfl) ?_
                        refine JP_take (i := 2) [0, 1, 2, 3, 4, 5, 6, 7, 8, 9] [] rfl (by kernel_rfl) (by kernel_rfl) (by kernel_rfl) rfl rfl (wants_none rfl) rfl (ex_fieldAddr fi_98_1 rfl rfl) ?_
                        refine JP_take (i := 3) [0, 1, 2, 3, 4, 5, 6, 7, 8, 9] [] rfl (by kernel_rfl) (by kernel_rfl) (by kernel_rfl) rfl rfl (wants_none rfl) rfl (ex_load_bx 7 ti_96 rfl rfl rfl) ?_
                        refine JP_take (i := 4) [0, 1, 2, 3, 4, 5, 6, 7, 8, 9] [] rfl (by kernel_rfl) (by kernel_rfl) (by kernel_rfl) rfl rfl (wants_none rfl) rfl (ex_move rfl) ?_
                        refine JP_go [0, 1, 2, 3, 4, 5, 6, 7, 8, 9] [] rfl rfl rfl (fun w66 h1_67 hp65 => ?_)
                        refine JD_bnd fun r68 hr69 => ?_
                        refine JD_one (i := 5) (by kernel_rfl) ?_
                        refine JO_call rfl (wants_none rfl) rfl Try.call59 rfl (Ca_of0 fun w hh => c_impl_keyOf _ w (fun _ hk => hk.elim) _ _ (hh.rd0 9 rfl) _ hr69) (fun _ => ?_)
                        refine JD_take (i := 6) hp65 rfl (by kernel_rfl) (by kernel_rfl) (by kernel_rfl) (wants_none rfl) rfl (ex_lookup_ok (x := r68) (z := 0) 6 key_9 Try.underlying96 zi_3 rfl rfl rfl rfl rfl) ?_
                        refine JD_take (i := 7) hp65 rfl (by kernel_rfl) (by kernel_rfl) (by kernel_rfl) (wants_none rfl) rfl (ex_move rfl) ?_
                        refine JD_take (i := 8) hp65 rfl (by kernel_rfl) (by kernel_rfl) (by kernel_rfl) (wants_none rfl) rfl (ex_extract rfl rfl) ?_
                        refine JD_take (i := 9) hp65 rfl (by kernel_rfl) (by kernel_rfl) (by kernel_rfl) (wants_none rfl) rfl (ex_extract rfl rfl) ?_
                        refine JD_take (i := 10) hp65 rfl (by kernel_rfl) (by kernel_rfl) (by kernel_rfl) (wants_none rfl) rfl (ex_assign rfl) ?_
                        refine JD_take (i := 11) hp65 rfl (by kernel_rfl) (by kernel_rfl) (by kernel_rfl) (wants_none rfl) rfl (ex_assign rfl) ?_
                        refine JD_done (by kernel_rfl) ?_
                        refine N_then ?_
                        refine J_seq ?_
                        refine J_cut' (S' := Unit) (G' := Unit) (fun _ _ => [(11, .pointer (some ⟨b7, 0, none⟩)), (12, .int .i64 ((mget (mput s40.2.1 r51 (s40.1.length : Int)) r68).getD 0))]) (fun _ _ => [.ow 102 v63 z61, mpf Value.string (Value.int .i64) b6 (mput s40.2.1 r51 (s40.1.length : Int)), .bx b7 98 [v63, .map (some b6), .bool false]]) ?_ (fun s70 g71 => ?_)
                        · refine J_block ?_
                          refine J_seq ?_
                          refine J_region ?_
                          refine JL_q (wants_none rfl) rfl (ex_move rfl) ?_
                          refine JL_q (wants_none rfl) rfl (ex_not rfl) ?_
                          refine JL_q (wants_none rfl) rfl (ex_move rfl) ?_
                          refine JL_cond (fun h72 => ?_) (fun h72 => ?_)
                          · refine JL_q (wants_some rfl rfl rfl h72) rfl (ex_move rfl) ?_
                            refine JL_q (wants_some rfl rfl rfl h72) rfl (ex_nilCheck rfl) ?_
                            refine JL_q (wants_some rfl rfl rfl h72) rfl (ex_fieldAddr fi_98_2 rfl rfl) ?_
                            refine JL_q (wants_some rfl rfl rfl h72) rfl (ex_load_bx 7 ti_4 rfl rfl rfl) ?_
                            refine JL_q (wants_none rfl) rfl (ex_pick_true rfl h72 rfl) ?_
                            refine JL_q (wants_none rfl) rfl (ex_assign rfl) ?_
                            refine JL_nil ?_
                            refine N_then ?_
                            refine J_if_false rfl rfl ?_
                            refine J_seq ?_
                            refine J_region ?_
                            refine JL_q (wants_none rfl) rfl (ex_move rfl) ?_
                            refine JL_q (wants_none rfl) rfl (ex_not rfl) ?_
                            refine JL_q (wants_none rfl) rfl (ex_assign rfl) ?_
                            refine JL_nil ?_
                            refine N_then ?_
                            refine J_if_true rfl h72 ?_
                            refine J_seq ?_
                            refine J_region ?_
                            refine JL_q (wants_none rfl) rfl (ex_assign rfl) ?_
                            refine JL_q (wants_none rfl) rfl (ex_assign rfl) ?_
                            refine JL_nil ?_
                            refine N_then ?_
                            refine J_ret ?_
                            refine N_block_ret ?_
                            refine N_mid_ret ?_
                            refine N_then_ret ?_
                            refine N_ctx (fun w hh => SH.od_nil (α := (List Int)) 23 hh) ?_
                            exact N_ret2 rfl (rv_tmp rfl) (rv_tmp rfl) (fun w hh => ⟨((.slice none 0 0 : Value), ([] : List Nat)), rfl, hh.sel [0] rfl⟩)
                          · refine JL_passed rfl rfl rfl h72 ?_
                            refine JL_passed rfl rfl rfl h72 ?_
                            refine JL_passed rfl rfl rfl h72 ?_
                            refine JL_passed rfl rfl rfl h72 ?_
                            refine JL_q (wants_none rfl) rfl (ex_pick_false rfl h72 rfl) ?_
                            refine JL_q (wants_none rfl) rfl (ex_assign rfl) ?_
                            refine JL_nil ?_
                            refine N_then ?_
                            refine J_if_false rfl rfl ?_
                            refine J_seq ?_
                            refine J_region ?_
                            refine JL_q (wants_none rfl) rfl (ex_move rfl) ?_
                            refine JL_q (wants_none rfl) rfl (ex_not rfl) ?_
                            refine JL_q (wants_none rfl) rfl (ex_assign rfl) ?_
                            refine JL_nil ?_
                            refine N_then ?_
                            refine J_if_false rfl h72 ?_
                            refine J_skip ?_
                            refine N_block ?_
                            exact N_meet' () ⟨rfl, rfl, trivial⟩ [5, 6, 7] rfl rfl
                        · refine N_then ?_
                          refine J_seq ?_
                          refine J_region ?_
                          refine JL_st (wants_none rfl) rfl (st_buildSlice_od (vs := []) (B := ([] : List Nat)) ([] : List (List Int)) [] Try.underlying33 ti_23 zi_23 rfl rfl rfl rfl rfl (fun w hh => dwv_nil)) (fun b73 => ?_)
                          refine JL_q (wants_none rfl) rfl (ex_assign rfl) ?_
                          refine JL_nil ?_
                          refine N_then ?_
                          refine J_seq ?_
                          refine J_loop' (S := Int × (List (List Int))) (G := Value × List Nat) (F_impl_DerivationOf_L3 z61) (fun s74 g75 => [(11, .pointer (some ⟨b7, 0, none⟩)), (12, .int .i64 s74.1), (14, g75.1)]) (fun s74 g75 => [.ow 102 v63 z61, mpf Value.string (Value.int .i64) b6 (mput s40.2.1 r51 (s40.1.length : Int)), .bx b7 98 [v63, .map (some b6), .bool false], .od 23 g75.1 s74.2 g75.2]) (((mget (mput s40.2.1 r51 (s40.1.length : Int)) r68).getD 0), ([] : List (List Int))) ((.slice (some ⟨b73, 0, none⟩) 0 0), ([] : List Nat)) ⟨rfl, rfl, rfl, trivial⟩ [1, 2, 3, 0] rfl rfl (fun s74 g75 => ?_) (fun s74 g75 => ?_)
                          · obtain ⟨g75_0, g75_1⟩ := g75
                            unfold F_impl_DerivationOf_L3
                            refine J_seq ?_
                            refine J_seq ?_
                            refine J_region ?_
                            refine JL_q (wants_none rfl) rfl (ex_move rfl) ?_
                            refine JL_q (wants_none rfl) rfl (ex_nilCheck rfl) ?_
                            refine JL_q (wants_none rfl) rfl (ex_fieldAddr fi_98_0 rfl rfl) ?_
                            refine JL_q (wants_none rfl) rfl (ex_load_bx 2 ti_95 rfl rfl rfl) ?_
                            refine JL_q (wants_none rfl) rfl (ex_move rfl) ?_
                            refine JL_bnd fun y76 hy77 => ?_
                            refine JL_ow_open (v := v63) 0 rfl hy77 ?_; rintro b78 cap79 rfl
                            refine JL_q (wants_none rfl) rfl (ex_index_ow 0 Try.underlying95 ti_102 rfl rfl rfl hy77) ?_
                            refine JL_q (wants_none rfl) rfl (ex_fieldAddr fi_102_1 rfl rfl) ?_
                            refine JL_q (wants_none rfl) rfl (ex_load_ow_part_int 0 (Gfound.at_parent _) rfl ti_3 rfl rfl hy77) ?_
                            refine JL_q (wants_none rfl) rfl (ex_geq rfl rfl) ?_
                            refine JL_nil ?_
                            refine N_then ?_
                            refine J_if rfl (fun h80 => ?_) (fun h80 => ?_)
                            · refine J_skip ?_
                              refine N_then ?_
                              refine J_seq ?_
                              refine J_block ?_
                              refine J_draw [3] (by kernel_rfl) ?_
                              refine JP_take (i := 0) [0, 1, 2] [3] rfl (by kernel_rfl) (by kernel_rfl) (by kernel_rfl) rfl rfl (wants_none rfl) rfl (ex_move rfl) ?_
                              refine JP_take (i := 1) [0, 1, 2] [3] rfl (by kernel_rfl) (by kernel_rfl) (by kernel_rfl) rfl rfl (wants_none rfl) rfl (ex_move rfl) ?_
                              refine JP_take (i := 2) [0, 1, 2] [3] rfl (by kernel_rfl) (by kernel_rfl) (by kernel_rfl) rfl rfl (wants_none rfl) rfl (ex_nilCheck rfl) ?_
                              refine JP_take (i := 3) [0, 1, 2] [3] rfl (by kernel_rfl) (by kernel_rfl) (by kernel_rfl) rfl rfl (wants_none rfl) rfl (ex_fieldAddr fi_98_0 rfl rfl) ?_
                              refine JP_take (i := 4) [0, 1, 2] [3] rfl (by kernel_rfl) (by kernel_rfl) (by kernel_rfl) rfl rfl (wants_none rfl) rfl (ex_load_bx 2 ti_95 rfl rfl rfl) ?_
                              refine JP_take (i := 5) [0, 1, 2] [3] rfl (by kernel_rfl) (by kernel_rfl) (by kernel_rfl) rfl rfl (wants_none rfl) rfl (ex_move rfl) ?_
                              refine JP_bnd fun y81 hy82 => ?_
                              refine JP_take (i := 6) [0, 1, 2] [3] rfl (by kernel_rfl) (by kernel_rfl) (by kernel_rfl) rfl rfl (wants_none rfl) rfl (ex_index_ow 0 Try.underlying95 ti_102 rfl rfl rfl hy82) ?_
                              refine JP_take (i := 7) [0, 1, 2] [3] rfl (by kernel_rfl) (by kernel_rfl) (by kernel_rfl) rfl rfl (wants_none rfl) rfl (ex_fieldAddr fi_102_0 rfl rfl) ?_
                              refine JP_take (i := 8) [0, 1, 2] [3] rfl (by kernel_rfl) (by kernel_rfl) (by kernel_rfl) rfl rfl (wants_none rfl) rfl (ex_fieldAddr fi_100_0 rfl rfl) ?_
                              refine JP_take (i := 9) [0, 1, 2] [3] rfl (by kernel_rfl) (by kernel_rfl) (by kernel_rfl) rfl rfl (wants_none rfl) rfl (ex_load_ow_part_int 0 (Part.trans (Gfound.at_move _) (Gmove.at_rule _)) rfl ti_2 rfl rfl hy82) ?_
                              refine JP_take (i := 10) [0, 1, 2] [3] rfl (by kernel_rfl) (by kernel_rfl) (by kernel_rfl) rfl rfl (wants_none rfl) rfl (ex_move rfl) ?_
                              refine JP_take (i := 11) [0, 1, 2] [3] rfl (by kernel_rfl) (by kernel_rfl) (by kernel_rfl) rfl rfl (wants_none rfl) rfl (ex_nilCheck rfl) ?_
                              refine JP_take (i := 12) [0, 1, 2] [3] rfl (by kernel_rfl) (by kernel_rfl) (by kernel_rfl) rfl rfl (wants_none rfl) rfl (ex_fieldAddr fi_98_0 rfl rfl) ?_
                              refine JP_take (i := 13) [0, 1, 2] [3] rfl (by kernel_rfl) (by kernel_rfl) (by kernel_rfl) rfl rfl (wants_none rfl) rfl (ex_load_bx 2 ti_95 rfl rfl rfl) ?_
                              refine JP_take (i := 14) [0, 1, 2] [3] rfl (by kernel_rfl) (by kernel_rfl) (by kernel_rfl) rfl rfl (wants_none rfl) rfl (ex_move rfl) ?_
                              refine JP_bnd fun y83 hy84 => ?_
                              refine JP_take (i := 15) [0, 1, 2] [3] rfl (by kernel_rfl) (by kernel_rfl) (by kernel_rfl) rfl rfl (wants_none rfl) rfl (ex_index_ow 0 Try.underlying95 ti_102 rfl rfl rfl hy84) ?_
                              refine JP_take (i := 16) [0, 1, 2] [3] rfl (by kernel_rfl) (by kernel_rfl) (by kernel_rfl) rfl rfl (wants_none rfl) rfl (ex_fieldAddr fi_102_0 rfl rfl) ?_
                              refine JP_take (i := 17) [0, 1, 2] [3] rfl (by kernel_rfl) (by kernel_rfl) (by kernel_rfl) rfl rfl (wants_none rfl) rfl (ex_fieldAddr fi_100_1 rfl rfl) ?_
                              refine JP_take (i := 18) [0, 1, 2] [3] rfl (by kernel_rfl) (by kernel_rfl) (by kernel_rfl) rfl rfl (wants_none rfl) rfl (ex_load_ow_part_int 0 (Part.trans (Gfound.at_move _) (Gmove.at_at_ _)) rfl ti_2 rfl rfl hy84) ?_
                              refine JP_go [0, 1, 2] [3] rfl rfl rfl (fun w86 h1_87 hp85 => ?_)
                              refine JD_one (i := 19) (by kernel_rfl) ?_
                              refine JO_st rfl (wants_none rfl) rfl (st_buildSlice (vs := [.int .i64 ((⟨y81.move_rule, y81.move_at_, y81.move_word⟩ : Gmove).rule), .int .i64 ((⟨y83.move_rule, y83.move_at_, y83.move_word⟩ : Gmove).at_)]) ([(⟨y81.move_rule, y81.move_at_, y81.move_word⟩ : Gmove).rule, (⟨y83.move_rule, y83.move_at_, y83.move_word⟩ : Gmove).at_] : List Int) Try.underlying23 ti_2 zi_2 rfl rfl rfl (fun w hh => ⟨(Rd.mk_int _ _ _), (Rd.mk_int _ _ _), trivial⟩)) (fun _ hk => nomatch hk) (fun b88 => ?_)
                              refine JD_one (i := 20) (by kernel_rfl) ?_
                              refine JO_ctx (fun w hh => hh.tokf 0 rfl rfl) (tokf_owns (i := 0) rfl) ?_
                              refine JO_st rfl (wants_none rfl) rfl (st_buildSlice_od (vs := [(.slice (some ⟨b88, 0, none⟩) 2 2)]) (B := ((((.slice (some ⟨b88, 0, none⟩) 2 2) : Value).ownBlock.toList ++ []) ++ [])) ([([(⟨y81.move_rule, y81.move_at_, y81.move_word⟩ : Gmove).rule, (⟨y83.move_rule, y83.move_at_, y83.move_word⟩ : Gmove).at_] : List Int)] : List (List Int)) [0] Try.underlying33 ti_23 zi_23 rfl rfl rfl rfl rfl (fun w hh => (dwv_cons (hh.dw 0 rfl) dwv_nil))) (fun _ hk => nomatch hk) (fun b89 => ?_)
                              refine JD_bnd fun z90 hz91 => ?_
                              refine JD_one (i := 21) (by kernel_rfl) ?_
                              refine JO_st rfl (wants_none rfl) rfl (st_append_od 6 0 Try.underlying33 ti_23 zi_23 rfl bi_23 rfl rfl rfl rfl rfl rfl hz91) (sub_od 0 rfl) (fun v92 => ?_)
                              refine JD_take (i := 22) hp85 rfl (by kernel_rfl) (by kernel_rfl) (by kernel_rfl) (wants_none rfl) rfl (ex_assign rfl) ?_
                              refine JD_done (by kernel_rfl) ?_
                              refine N_block ?_
                              refine N_then ?_
                              refine J_region ?_
                              refine JL_q (wants_none rfl) rfl (ex_move rfl) ?_
                              refine JL_q (wants_none rfl) rfl (ex_nilCheck rfl) ?_
                              refine JL_q (wants_none rfl) rfl (ex_fieldAddr fi_98_0 rfl rfl) ?_
                              refine JL_q (wants_none rfl) rfl (ex_load_bx 5 ti_95 rfl rfl rfl) ?_
                              refine JL_q (wants_none rfl) rfl (ex_move rfl) ?_
                              refine JL_bnd fun y93 hy94 => ?_
                              refine JL_q (wants_none rfl) rfl (ex_index_ow 3 Try.underlying95 ti_102 rfl rfl rfl hy94) ?_
                              refine JL_q (wants_none rfl) rfl (ex_fieldAddr fi_102_1 rfl rfl) ?_
                              refine JL_q (wants_none rfl) rfl (ex_load_ow_part_int 3 (Gfound.at_parent _) rfl ti_3 rfl rfl hy94) ?_
                              refine JL_q (wants_none rfl) rfl (ex_assign rfl) ?_
                              refine JL_nil ?_
                              exact N_next' (v92, (g75_1 ++ ((((.slice (some ⟨b88, 0, none⟩) 2 2) : Value).ownBlock.toList ++ []) ++ []))) ⟨rfl, rfl, rfl, trivial⟩ [3, 4, 5, 6] rfl rfl
                            · refine J_exit ?_
                              refine N_then_exit ?_
                              exact N_break' (g75_0, g75_1) ⟨rfl, rfl, rfl, trivial⟩ [0, 1, 2, 3] rfl rfl
                          · obtain ⟨g75_0, g75_1⟩ := g75
                            refine N_then ?_
                            refine J_seq ?_
                            refine J_seq ?_
                            refine J_region ?_
                            refine JL_q (wants_none rfl) rfl (ex_move rfl) ?_
                            refine JL_q (wants_none rfl) rfl (ex_od 3 rfl (ex_len_ow 3 Try.underlying33 rfl rfl)) ?_
                            refine JL_q (wants_none rfl) rfl (ex_gtr rfl rfl) ?_
                            refine JL_nil ?_
                            refine N_then ?_
                            refine J_if rfl (fun h95 => ?_) (fun h95 => ?_)
                            · refine J_seq ?_
                              refine J_region ?_
                              refine JL_q (wants_none rfl) rfl (ex_assign rfl) ?_
                              refine JL_q (wants_none rfl) rfl (ex_assign rfl) ?_
                              refine JL_nil ?_
                              refine N_then ?_
                              refine J_ret ?_
                              refine N_then_ret ?_
                              refine N_ctx (fun w hh => SH.od_nil (α := (List Int)) 23 hh) ?_
                              exact N_ret2 rfl (rv_tmp rfl) (rv_tmp rfl) (fun w hh => ⟨((.slice none 0 0 : Value), ([] : List Nat)), rfl, hh.sel [0] rfl⟩)
                            · refine J_skip ?_
                              refine N_then ?_
                              refine J_seq ?_
                              refine J_region ?_
                              refine JL_q (wants_none rfl) rfl (ex_move rfl) ?_
                              refine JL_bnd fun z96 hz97 => ?_
                              refine JL_rev_od 3 rc_slices_Reverse_SSint64_Sint64 rfl (wants_none rfl) rfl Try.call60 rfl rfl hz97 ?_
                              refine JL_nil ?_
                              refine N_then ?_
                              refine J_seq ?_
                              refine J_region ?_
                              refine JL_q (wants_none rfl) rfl (ex_move rfl) ?_
                              refine JL_q (wants_none rfl) rfl (ex_assign rfl) ?_
                              refine JL_q (wants_none rfl) rfl (ex_assign rfl) ?_
                              refine JL_nil ?_
                              refine N_then ?_
                              refine J_ret ?_
                              exact N_ret2 rfl (rv_tmp rfl) (rv_tmp rfl) (fun w hh => ⟨(g75_0, g75_1), rfl, hh.sel [3] rfl⟩)
                      · refine J_skip ?_
                        refine N_block ?_
                        refine N_then ?_
                        refine J_region ?_
                        refine JL_q (wants_none rfl) rfl (ex_add rfl rfl) ?_
                        refine JL_q (wants_none rfl) rfl (ex_move rfl) ?_
                        refine JL_nil ?_
                        exact N_next' v63 ⟨rfl, rfl, rfl, rfl, rfl, rfl, rfl, trivial⟩ [4, 5, 6, 7, 8, 9] rfl rfl
                    · refine JO_st rfl (wants_none rfl) rfl (st_buildSlice (vs := [.agg #[.int .i64 y43.rule, .int .i64 y43.at_, v47, .int .i64 s25.2.2.2]]) ([(⟨y43.rule, y43.at_, y43.word, s25.2.2.2⟩ : Gfound)] : List Gfound) Try.underlying95 ti_102 zi_102 rfl rfl rfl (fun w hh => ⟨(Gfound.rdmk (Rd.mk_int _ _ _) (Rd.mk_int _ _ _) (hh.rd 2 rfl) (Rd.mk_int _ _ _)), trivial⟩)) (fun _ hk => nomatch hk) (fun b98 => ?_)
                      refine JD_one (i := 4) (by kernel_rfl) ?_
                      refine JO_q rfl (wants_none rfl) rfl (ex_load_bx 7 ti_95 rfl rfl rfl) ?_
                      refine JD_bnd fun z99 hz100 => ?_
                      refine JD_one (i := 7) (by kernel_rfl) ?_
                      refine JO_st rfl (wants_none rfl) rfl (st_append 5 Try.underlying95 ti_102 zi_102 rfl bi_102 rfl rfl rfl rfl (fun w hh => hh.src_ow 0 rfl) hz100) (sub_ow 0 rfl) (fun v101 => ?_)
                      refine JD_take (i := 8) hp57 rfl (by kernel_rfl) (by kernel_rfl) (by kernel_rfl) (wants_none rfl) rfl (ex_nilCheck rfl) ?_
                      refine JD_take (i := 9) hp57 rfl (by kernel_rfl) (by kernel_rfl) (by kernel_rfl) (wants_none rfl) rfl (ex_fieldAddr fi_98_0 rfl rfl) ?_
                      refine JD_one (i := 10) (by kernel_rfl) ?_
                      refine JO_sk rfl (wants_none rfl) (sk_store_bx' 7 ti_95 rfl rfl (fun w hh => (hh.cv_ow 5 rfl)) rfl rfl rfl rfl) (sub_bx 1 rfl) ?_
                      refine JD_done (by kernel_rfl) ?_
                      refine N_inl0 (.inr rfl) hK49 rfl ?_
                      refine JL_nil ?_
                      refine N_then ?_
                      refine J_seq ?_
                      refine J_region ?_
                      refine JL_q (wants_none rfl) rfl (ex_move rfl) ?_
                      refine JL_q (wants_none rfl) rfl (ex_nilCheck rfl) ?_
                      refine JL_q (wants_none rfl) rfl (ex_fieldAddr fi_98_0 rfl rfl) ?_
                      refine JL_q (wants_none rfl) rfl (ex_load_bx 7 ti_95 rfl rfl rfl) ?_
                      refine JL_q (wants_none rfl) rfl (ex_len_ow 5 Try.underlying95 rfl rfl) ?_
                      refine JL_q (wants_none rfl) rfl (ex_eql rfl rfl) ?_
                      refine JL_nil ?_
                      refine N_then ?_
                      refine J_if rfl (fun h102 => ?_) (fun h102 => ?_)
                      · refine J_seq ?_
                        refine J_region ?_
                        refine JL_q (wants_none rfl) rfl (ex_move rfl) ?_
                        refine JL_q (wants_none rfl) rfl (ex_nilCheck rfl) ?_
                        refine JL_q (wants_none rfl) rfl (ex_fieldAddr fi_98_2 rfl rfl) ?_
                        refine JL_sk (wants_none rfl) (sk_store_bx' 7 ti_4 rfl rfl (fun w hh => cv_bool) rfl rfl rfl rfl) ?_
                        refine JL_nil ?_
                        refine N_then ?_
                        refine J_seq ?_
                        refine J_region ?_
                        refine JL_q (wants_none rfl) rfl (ex_move rfl) ?_
                        refine JL_q (wants_none rfl) rfl (ex_assign rfl) ?_
                        refine JL_nil ?_
                        refine N_then ?_
                        refine J_ret ?_
                        refine N_block_ret ?_
                        refine N_then_ret ?_
                        refine N_round_ret ?_
                        refine N_block_ret ?_
                        refine N_then_ret ?_
                        refine N_round_reti ?_
                        refine N_then_ret ?_
                        refine N_inl1 hK5 rfl (rv_tmp rfl) ?_
                        refine JL_q (wants_none rfl) rfl (ex_assign rfl) ?_
                        refine JL_nil ?_
                        refine N_then ?_
                        refine J_seq ?_
                        refine J_draw [] (by kernel_rfl) ?_
                        refine JP_take (i := 0) [0, 1, 2, 3, 4, 5, 6, 7, 8, 9] [] rfl (by kernel_rfl) (by kernel_rfl) (by kernel_rfl) rfl rfl (wants_none rfl) rfl (ex_move rfl) ?_
                        refine JP_take (i := 1) [0, 1, 2, 3, 4, 5, 6, 7, 8, 9] [] rfl (by kernel_rfl) (by kernel_rfl) (by kernel_rfl) rfl rfl (wants_none rfl) rfl (ex_nilCheck rfl) ?_
                        refine JP_take (i := 2) [0, 1, 2, 3, 4, 5, 6, 7, 8, 9] [] rfl (by kernel_rfl) (by kernel_rfl) (by kernel_rfl) rfl rfl (wants_none rfl) rfl (ex_fieldAddr fi_98_1 rfl rfl) ?_
                        refine JP_take (i := 3) [0, 1, 2, 3, 4, 5, 6, 7, 8, 9] [] rfl (by kernel_rfl) (by kernel_rfl) (by kernel_rfl) rfl rfl (wants_none rfl) rfl (ex_load_bx 7 ti_96 rfl rfl rfl) ?_
                        refine JP_take (i := 4) [0, 1, 2, 3, 4, 5, 6, 7, 8, 9] [] rfl (by kernel_rfl) (by kernel_rfl) (by kernel_rfl) rfl rfl (wants_none rfl) rfl (ex_move rfl) ?_
                        refine JP_go [0, 1, 2, 3, 4, 5, 6, 7, 8, 9] [] rfl rfl rfl (fun w104 h1_105 hp103 => ?_)
                        refine JD_bnd fun r106 hr107 => ?_
                        refine JD_one (i := 5) (by kernel_rfl) ?_
                        refine JO_call rfl (wants_none rfl) rfl Try.call59 rfl (Ca_of0 fun w hh => c_impl_keyOf _ w (fun _ hk => hk.elim) _ _ (hh.rd0 9 rfl) _ hr107) (fun _ => ?_)
                        refine JD_take (i := 6) hp103 rfl (by kernel_rfl) (by kernel_rfl) (by kernel_rfl) (wants_none rfl) rfl (ex_lookup_ok (x := r106) (z := 0) 6 key_9 Try.underlying96 zi_3 rfl rfl rfl rfl rfl) ?_
                        refine JD_take (i := 7) hp103 rfl (by kernel_rfl) (by kernel_rfl) (by kernel_rfl) (wants_none rfl) rfl (ex_move rfl) ?_
                        refine JD_take (i := 8) hp103 rfl (by kernel_rfl) (by kernel_rfl) (by kernel_rfl) (wants_none rfl) rfl (ex_extract rfl rfl) ?_
                        refine JD_take (i := 9) hp103 rfl (by kernel_rfl) (by kernel_rfl) (by kernel_rfl) (wants_none rfl) rfl (ex_extract rfl rfl) ?_
                        refine JD_take (i := 10) hp103 rfl (by kernel_rfl) (by kernel_rfl) (by kernel_rfl) (wants_none rfl) rfl (ex_assign rfl) ?_
                        refine JD_take (i := 11) hp103 rfl (by kernel_rfl) (by kernel_rfl) (by kernel_rfl) (wants_none rfl) rfl (ex_assign rfl) ?_
                        refine JD_done (by kernel_rfl) ?_
                        refine N_then ?_
                        refine J_seq ?_
                        refine J_cut' (S' := Unit) (G' := Unit) (fun _ _ => [(11, .pointer (some ⟨b7, 0, none⟩)), (12, .int .i64 ((mget (mput s40.2.1 r51 (s40.1.length : Int)) r106).getD 0))]) (fun _ _ => [.ow 102 v101 z99, mpf Value.string (Value.int .i64) b6 (mput s40.2.1 r51 (s40.1.length : Int)), .bx b7 98 [v101, .map (some b6), .bool false]]) ?_ (fun s108 g109 => ?_)
                        · refine J_block ?_
                          refine J_seq ?_
                          refine J_region ?_
                          refine JL_q (wants_none rfl) rfl (ex_move rfl) ?_
                          refine JL_q (wants_none rfl) rfl (ex_not rfl) ?_
                          refine JL_q (wants_none rfl) rfl (ex_move rfl) ?_
                          refine JL_cond (fun h110 => ?_) (fun h110 => ?_)
                          · refine JL_q (wants_some rfl rfl rfl h110) rfl (ex_move rfl) ?_
                            refine JL_q (wants_some rfl rfl rfl h110) rfl (ex_nilCheck rfl) ?_
                            refine JL_q (wants_some rfl rfl rfl h110) rfl (ex_fieldAddr fi_98_2 rfl rfl) ?_
                            refine JL_q (wants_some rfl rfl rfl h110) rfl (ex_load_bx 7 ti_4 rfl rfl rfl) ?_
                            refine JL_q (wants_none rfl) rfl (ex_pick_true rfl h110 rfl) ?_
                            refine JL_q (wants_none rfl) rfl (ex_assign rfl) ?_
                            refine JL_nil ?_
                            refine N_then ?_
                            refine J_if_false rfl rfl ?_
                            refine J_seq ?_
                            refine J_region ?_
                            refine JL_q (wants_none rfl) rfl (ex_move rfl) ?_
                            refine JL_q (wants_none rfl) rfl (ex_not rfl) ?_
                            refine JL_q (wants_none rfl) rfl (ex_assign rfl) ?_
                            refine JL_nil ?_
                            refine N_then ?_
                            refine J_if_true rfl h110 ?_
                            refine J_seq ?_
                            refine J_region ?_
                            refine JL_q (wants_none rfl) rfl (ex_assign rfl) ?_
                            refine JL_q (wants_none rfl) rfl (ex_assign rfl) ?_
                            refine JL_nil ?_
                            refine N_then ?_
                            refine J_ret ?_
                            refine N_block_ret ?_
                            refine N_mid_ret ?_
                            refine N_then_ret ?_
                            refine N_ctx (fun w hh => SH.od_nil (α := (List Int)) 23 hh) ?_
                            exact N_ret2 rfl (rv_tmp rfl) (rv_tmp rfl) (fun w hh => ⟨((.slice none 0 0 : Value), ([] : List Nat)), rfl, hh.sel [0] rfl⟩)
                          · refine JL_passed rfl rfl rfl h110 ?_
                            refine JL_passed rfl rfl rfl h110 ?_
                            refine JL_passed rfl rfl rfl h110 ?_
                            refine JL_passed rfl rfl rfl h110 ?_
                            refine JL_q (wants_none rfl) rfl (ex_pick_false rfl h110 rfl) ?_
                            refine JL_q (wants_none rfl) rfl (ex_assign rfl) ?_
                            refine JL_nil ?_
                            refine N_then ?_
                            refine J_if_false rfl rfl ?_
                            refine J_seq ?_
                            refine J_region ?_
                            refine JL_q (wants_none rfl) rfl (ex_move rfl) ?_
                            refine JL_q (wants_none rfl) rfl (ex_not rfl) ?_
                            refine JL_q (wants_none rfl) rfl (ex_assign rfl) ?_
                            refine JL_nil ?_
                            refine N_then ?_
                            refine J_if_false rfl h110 ?_
                            refine J_skip ?_
                            refine N_block ?_
                            exact N_meet' () ⟨rfl, rfl, trivial⟩ [5, 6, 7] rfl rfl
                        · refine N_then ?_
                          refine J_seq ?_
                          refine J_region ?_
                          refine JL_st (wants_none rfl) rfl (st_buildSlice_od (vs := []) (B := ([] : List Nat)) ([] : List (List Int)) [] Try.underlying33 ti_23 zi_23 rfl rfl rfl rfl rfl (fun w hh => dwv_nil)) (fun b111 => ?_)
                          refine JL_q (wants_none rfl) rfl (ex_assign rfl) ?_
                          refine JL_nil ?_
                          refine N_then ?_
                          refine J_seq ?_
                          refine J_loop' (S := Int × (List (List Int))) (G := Value × List Nat) (F_impl_DerivationOf_L3 z99) (fun s112 g113 => [(11, .pointer (some ⟨b7, 0, none⟩)), (12, .int .i64 s112.1), (14, g113.1)]) (fun s112 g113 => [.ow 102 v101 z99, mpf Value.string (Value.int .i64) b6 (mput s40.2.1 r51 (s40.1.length : Int)), .bx b7 98 [v101, .map (some b6), .bool false], .od 23 g113.1 s112.2 g113.2]) (((mget (mput s40.2.1 r51 (s40.1.length : Int)) r106).getD 0), ([] : List (List Int))) ((.slice (some ⟨b111, 0, none⟩) 0 0), ([] : List Nat)) ⟨rfl, rfl, rfl, trivial⟩ [1, 2, 3, 0] rfl rfl (fun s112 g113 => ?_) (fun s112 g113 => ?_)
                          · obtain ⟨g113_0, g113_1⟩ := g113
                            unfold F_impl_DerivationOf_L3
                            refine J_seq ?_
                            refine J_seq ?_
                            refine J_region ?_
                            refine JL_q (wants_none rfl) rfl (ex_move rfl) ?_
                            refine JL_q (wants_none rfl) rfl (ex_nilCheck rfl) ?_
                            refine JL_q (wants_none rfl) rfl (ex_fieldAddr fi_98_0 rfl rfl) ?_
                            refine JL_q (wants_none rfl) rfl (ex_load_bx 2 ti_95 rfl rfl rfl) ?_
                            refine JL_q (wants_none rfl) rfl (ex_move rfl) ?_
                            refine JL_bnd fun y114 hy115 => ?_
                            refine JL_ow_open (v := v101) 0 rfl hy115 ?_; rintro b116 cap117 rfl
                            refine JL_q (wants_none rfl) rfl (ex_index_ow 0 Try.underlying95 ti_102 rfl rfl rfl hy115) ?_
                            refine JL_q (wants_none rfl) rfl (ex_fieldAddr fi_102_1 rfl rfl) ?_
                            refine JL_q (wants_none rfl) rfl (ex_load_ow_part_int 0 (Gfound.at_parent _) rfl ti_3 rfl rfl hy115) ?_
                            refine JL_q (wants_none rfl) rfl (ex_geq rfl rfl) ?_
                            refine JL_nil ?_
                            refine N_then ?_
                            refine J_if rfl (fun h118 => ?_) (fun h118 => ?_)
                            · refine J_skip ?_
                              refine N_then ?_
                              refine J_seq ?_
                              refine J_block ?_
                              refine J_draw [3] (by kernel_rfl) ?_
                              refine JP_take (i := 0) [0, 1, 2] [3] rfl (by kernel_rfl) (by kernel_rfl) (by kernel_rfl) rfl rfl (wants_none rfl) rfl (ex_move rfl) ?_
                              refine JP_take (i := 1) [0, 1, 2] [3] rfl (by kernel_rfl) (by kernel_rfl) (by kernel_rfl) rfl rfl (wants_none rfl) rfl (ex_move rfl) ?_
                              refine JP_take (i := 2) [0, 1, 2] [3] rfl (by kernel_rfl) (by kernel_rfl) (by kernel_rfl) rfl rfl (wants_none rfl) rfl (ex_nilCheck rfl) ?_
                              refine JP_take (i := 3) [0, 1, 2] [3] rfl (by kernel_rfl) (by kernel_rfl) (by kernel_rfl) rfl rfl (wants_none rfl) rfl (ex_fieldAddr fi_98_0 rfl rfl) ?_
                              refine JP_take (i := 4) [0, 1, 2] [3] rfl (by kernel_rfl) (by kernel_rfl) (by kernel_rfl) rfl rfl (wants_none rfl) rfl (ex_load_bx 2 ti_95 rfl rfl rfl) ?_
                              refine JP_take (i := 5) [0, 1, 2] [3] rfl (by kernel_rfl) (by kernel_rfl) (by kernel_rfl) rfl rfl (wants_none rfl) rfl (ex_move rfl) ?_
                              refine JP_bnd fun y119 hy120 => ?_
                              refine JP_take (i := 6) [0, 1, 2] [3] rfl (by kernel_rfl) (by kernel_rfl) (by kernel_rfl) rfl rfl (wants_none rfl) rfl (ex_index_ow 0 Try.underlying95 ti_102 rfl rfl rfl hy120) ?_
                              refine JP_take (i := 7) [0, 1, 2] [3] rfl (by kernel_rfl) (by kernel_rfl) (by kernel_rfl) rfl rfl (wants_none rfl) rfl (ex_fieldAddr fi_102_0 rfl rfl) ?_
                              refine JP_take (i := 8) [0, 1, 2] [3] rfl (by kernel_rfl) (by kernel_rfl) (by kernel_rfl) rfl rfl (wants_none rfl) rfl (ex_fieldAddr fi_100_0 rfl rfl) ?_
                              refine JP_take (i := 9) [0, 1, 2] [3] rfl (by kernel_rfl) (by kernel_rfl) (by kernel_rfl) rfl rfl (wants_none rfl) rfl (ex_load_ow_part_int 0 (Part.trans (Gfound.at_move _) (Gmove.at_rule _)) rfl ti_2 rfl rfl hy120) ?_
                              refine JP_take (i := 10) [0, 1, 2] [3] rfl (by kernel_rfl) (by kernel_rfl) (by kernel_rfl) rfl rfl (wants_none rfl) rfl (ex_move rfl) ?_
                              refine JP_take (i := 11) [0, 1, 2] [3] rfl (by kernel_rfl) (by kernel_rfl) (by kernel_rfl) rfl rfl (wants_none rfl) rfl (ex_nilCheck rfl) ?_
                              refine JP_take (i := 12) [0, 1, 2] [3] rfl (by kernel_rfl) (by kernel_rfl) (by kernel_rfl) rfl rfl (wants_none rfl) rfl (ex_fieldAddr fi_98_0 rfl rfl) ?_
                              refine JP_take (i := 13) [0, 1, 2] [3] rfl (by kernel_rfl) (by kernel_rfl) (by kernel_rfl) rfl rfl (wants_none rfl) rfl (ex_load_bx 2 ti_95 rfl rfl rfl) ?_
                              refine JP_take (i := 14) [0, 1, 2] [3] rfl (by kernel_rfl) (by kernel_rfl) (by kernel_rfl) rfl rfl (wants_none rfl) rfl (ex_move rfl) ?_
                              refine JP_bnd fun y121 hy122 => ?_
                              refine JP_take (i := 15) [0, 1, 2] [3] rfl (by kernel_rfl) (by kernel_rfl) (by kernel_rfl) rfl rfl (wants_none rfl) rfl (ex_index_ow 0 Try.underlying95 ti_102 rfl rfl rfl hy122) ?_
                              refine JP_take (i := 16) [0, 1, 2] [3] rfl (by kernel_rfl) (by kernel_rfl) (by kernel_rfl) rfl rfl (wants_none rfl) rfl (ex_fieldAddr fi_102_0 rfl rfl) ?_
                              refine JP_take (i := 17) [0, 1, 2] [3] rfl (by kernel_rfl) (by kernel_rfl) (by kernel_rfl) rfl rfl (wants_none rfl) rfl (ex_fieldAddr fi_100_1 rfl rfl) ?_
                              refine JP_take (i := 18) [0, 1, 2] [3] rfl (by kernel_rfl) (by kernel_rfl) (by kernel_rfl) rfl rfl (wants_none rfl) rfl (ex_load_ow_part_int 0 (Part.trans (Gfound.at_move _) (Gmove.at_at_ _)) rfl ti_2 rfl rfl hy122) ?_
                              refine JP_go [0, 1, 2] [3] rfl rfl rfl (fun w124 h1_125 hp123 => ?_)
                              refine JD_one (i := 19) (by kernel_rfl) ?_
                              refine JO_st rfl (wants_none rfl) rfl (st_buildSlice (vs := [.int .i64 ((⟨y119.move_rule, y119.move_at_, y119.move_word⟩ : Gmove).rule), .int .i64 ((⟨y121.move_rule, y121.move_at_, y121.move_word⟩ : Gmove).at_)]) ([(⟨y119.move_rule, y119.move_at_, y119.move_word⟩ : Gmove).rule, (⟨y121.move_rule, y121.move_at_, y121.move_word⟩ : Gmove).at_] : List Int) Try.underlying23 ti_2 zi_2 rfl rfl rfl (fun w hh => ⟨(Rd.mk_int _ _ _), (Rd.mk_int _ _ _), trivial⟩)) (fun _ hk => nomatch hk) (fun b126 => ?_)
                              refine JD_one (i := 20) (by kernel_rfl) ?_
                              refine JO_ctx (fun w hh => hh.tokf 0 rfl rfl) (tokf_owns (i := 0) rfl) ?_
                              refine JO_st rfl (wants_none rfl) rfl (st_buildSlice_od (vs := [(.slice (some ⟨b126, 0, none⟩) 2 2)]) (B := ((((.slice (some ⟨b126, 0, none⟩) 2 2) : Value).ownBlock.toList ++ []) ++ [])) ([([(⟨y119.move_rule, y119.move_at_, y119.move_word⟩ : Gmove).rule, (⟨y121.move_rule, y121.move_at_, y121.move_word⟩ : Gmove).at_] : List Int)] : List (List Int)) [0] Try.underlying33 ti_23 zi_23 rfl rfl rfl rfl rfl (fun w hh => (dwv_cons (hh.dw 0 rfl) dwv_nil))) (fun _ hk => nomatch hk) (fun b127 => ?_)
                              refine JD_bnd fun z128 hz129 => ?_
                              refine JD_one (i := 21) (by kernel_rfl) ?_
                              refine JO_st rfl (wants_none rfl) rfl (st_append_od 6 0 Try.underlying33 ti_23 zi_23 rfl bi_23 rfl rfl rfl rfl rfl rfl hz129) (sub_od 0 rfl) (fun v130 => ?_)
                              refine JD_take (i := 22) hp123 rfl (by kernel_rfl) (by kernel_rfl) (by kernel_rfl) (wants_none rfl) rfl (ex_assign rfl) ?_
                              refine JD_done (by kernel_rfl) ?_
                              refine N_block ?_
                              refine N_then ?_
                              refine J_region ?_
                              refine JL_q (wants_none rfl) rfl (ex_move rfl) ?_
                              refine JL_q (wants_none rfl) rfl (ex_nilCheck rfl) ?_
                              refine JL_q (wants_none rfl) rfl (ex_fieldAddr fi_98_0 rfl rfl) ?_
                              refine JL_q (wants_none rfl) rfl (ex_load_bx 5 ti_95 rfl rfl rfl) ?_
                              refine JL_q (wants_none rfl) rfl (ex_move rfl) ?_
                              refine JL_bnd fun y131 hy132 => ?_
                              refine JL_q (wants_none rfl) rfl (ex_index_ow 3 Try.underlying95 ti_102 rfl rfl rfl hy132) ?_
                              refine JL_q (wants_none rfl) rfl (ex_fieldAddr fi_102_1 rfl rfl) ?_
                              refine JL_q (wants_none rfl) rfl (ex_load_ow_part_int 3 (Gfound.at_parent _) rfl ti_3 rfl rfl hy132) ?_
                              refine JL_q (wants_none rfl) rfl (ex_assign rfl) ?_
                              refine JL_nil ?_
                              exact N_next' (v130, (g113_1 ++ ((((.slice (some ⟨b126, 0, none⟩) 2 2) : Value).ownBlock.toList ++ []) ++ []))) ⟨rfl, rfl, rfl, trivial⟩ [3, 4, 5, 6] rfl rfl
                            · refine J_exit ?_
                              refine N_then_exit ?_
                              exact N_break' (g113_0, g113_1) ⟨rfl, rfl, rfl, trivial⟩ [0, 1, 2, 3] rfl rfl
                          · obtain ⟨g113_0, g113_1⟩ := g113
                            refine N_then ?_
                            refine J_seq ?_
                            refine J_seq ?_
                            refine J_region ?_
                            refine JL_q (wants_none rfl) rfl (ex_move rfl) ?_
                            refine JL_q (wants_none rfl) rfl (ex_od 3 rfl (ex_len_ow 3 Try.underlying33 rfl rfl)) ?_
                            refine JL_q (wants_none rfl) rfl (ex_gtr rfl rfl) ?_
                            refine JL_nil ?_
                            refine N_then ?_
                            refine J_if rfl (fun h133 => ?_) (fun h133 => ?_)
                            · refine J_seq ?_
                              refine J_region ?_
                              refine JL_q (wants_none rfl) rfl (ex_assign rfl) ?_
                              refine JL_q (wants_none rfl) rfl (ex_assign rfl) ?_
                              refine JL_nil ?_
                              refine N_then ?_
                              refine J_ret ?_
                              refine N_then_ret ?_
                              refine N_ctx (fun w hh => SH.od_nil (α := (List Int)) 23 hh) ?_
                              exact N_ret2 rfl (rv_tmp rfl) (rv_tmp rfl) (fun w hh => ⟨((.slice none 0 0 : Value), ([] : List Nat)), rfl, hh.sel [0] rfl⟩)
                            · refine J_skip ?_
                              refine N_then ?_
                              refine J_seq ?_
                              refine J_region ?_
                              refine JL_q (wants_none rfl) rfl (ex_move rfl) ?_
                              refine JL_bnd fun z134 hz135 => ?_
                              refine JL_rev_od 3 rc_slices_Reverse_SSint64_Sint64 rfl (wants_none rfl) rfl Try.call60 rfl rfl hz135 ?_
                              refine JL_nil ?_
                              refine N_then ?_
                              refine J_seq ?_
                              refine J_region ?_
                              refine JL_q (wants_none rfl) rfl (ex_move rfl) ?_
                              refine JL_q (wants_none rfl) rfl (ex_assign rfl) ?_
                              refine JL_q (wants_none rfl) rfl (ex_assign rfl) ?_
                              refine JL_nil ?_
                              refine N_then ?_
                              refine J_ret ?_
                              exact N_ret2 rfl (rv_tmp rfl) (rv_tmp rfl) (fun w hh => ⟨(g113_0, g113_1), rfl, hh.sel [3] rfl⟩)
                      · refine J_skip ?_
                        refine N_block ?_
                        refine N_then ?_
                        refine J_region ?_
                        refine JL_q (wants_none rfl) rfl (ex_add rfl rfl) ?_
                        refine JL_q (wants_none rfl) rfl (ex_move rfl) ?_
                        refine JL_nil ?_
                        exact N_next' v101 ⟨rfl, rfl, rfl, rfl, rfl, rfl, rfl, trivial⟩ [4, 5, 6, 7, 8, 9] rfl rfl
                  · refine J_skip ?_
                    refine N_inl0 (.inr rfl) hK49 rfl ?_
                    refine JL_nil ?_
                    refine N_then ?_
                    refine J_seq ?_
                    refine J_region ?_
                    refine JL_q (wants_none rfl) rfl (ex_move rfl) ?_
                    refine JL_q (wants_none rfl) rfl (ex_nilCheck rfl) ?_
                    refine JL_q (wants_none rfl) rfl (ex_fieldAddr fi_98_0 rfl rfl) ?_
                    refine JL_q (wants_none rfl) rfl (ex_load_bx 6 ti_95 rfl rfl rfl) ?_
                    refine JL_q (wants_none rfl) rfl (ex_len_ow 4 Try.underlying95 rfl rfl) ?_
                    refine JL_q (wants_none rfl) rfl (ex_eql rfl rfl) ?_
                    refine JL_nil ?_
                    refine N_then ?_
                    refine J_if rfl (fun h136 => ?_) (fun h136 => ?_)
                    · refine J_seq ?_
                      refine J_region ?_
                      refine JL_q (wants_none rfl) rfl (ex_move rfl) ?_
                      refine JL_q (wants_none rfl) rfl (ex_nilCheck rfl) ?_
                      refine JL_q (wants_none rfl) rfl (ex_fieldAddr fi_98_2 rfl rfl) ?_
                      refine JL_sk (wants_none rfl) (sk_store_bx' 6 ti_4 rfl rfl (fun w hh => cv_bool) rfl rfl rfl rfl) ?_
                      refine JL_nil ?_
                      refine N_then ?_
                      refine J_seq ?_
                      refine J_region ?_
                      refine JL_q (wants_none rfl) rfl (ex_move rfl) ?_
                      refine JL_q (wants_none rfl) rfl (ex_assign rfl) ?_
                      refine JL_nil ?_
                      refine N_then ?_
                      refine J_ret ?_
                      refine N_block_ret ?_
                      refine N_then_ret ?_
                      refine N_round_ret ?_
                      refine N_block_ret ?_
                      refine N_then_ret ?_
                      refine N_round_reti ?_
                      refine N_then_ret ?_
                      refine N_inl1 hK5 rfl (rv_tmp rfl) ?_
                      refine JL_q (wants_none rfl) rfl (ex_assign rfl) ?_
                      refine JL_nil ?_
                      refine N_then ?_
                      refine J_seq ?_
                      refine J_draw [] (by kernel_rfl) ?_
                      refine JP_take (i := 0) [0, 1, 2, 3, 4, 5, 6, 7, 8] [] rfl (by kernel_rfl) (by kernel_rfl) (by kernel_rfl) rfl rfl (wants_none rfl) rfl (ex_move rfl) ?_
                      refine JP_take (i := 1) [0, 1, 2, 3, 4, 5, 6, 7, 8] [] rfl (by kernel_rfl) (by kernel_rfl) (by kernel_rfl) rfl rfl (wants_none rfl) rfl (ex_nilCheck rfl) ?_
                      refine JP_take (i := 2) [0, 1, 2, 3, 4, 5, 6, 7, 8] [] rfl (by kernel_rfl) (by kernel_rfl) (by kernel_rfl) rfl rfl (wants_none rfl) rfl (ex_fieldAddr fi_98_1 rfl rfl) ?_
                      refine JP_take (i := 3) [0, 1, 2, 3, 4, 5, 6, 7, 8] [] rfl (by kernel_rfl) (by kernel_rfl) (by kernel_rfl) rfl rfl (wants_none rfl) rfl (ex_load_bx 6 ti_96 rfl rfl rfl) ?_
                      refine JP_take (i := 4) [0, 1, 2, 3, 4, 5, 6, 7, 8] [] rfl (by kernel_rfl) (by kernel_rfl) (by kernel_rfl) rfl rfl (wants_none rfl) rfl (ex_move rfl) ?_
                      refine JP_go [0, 1, 2, 3, 4, 5, 6, 7, 8] [] rfl rfl rfl (fun w138 h1_139 hp137 => ?_)
                      refine JD_bnd fun r140 hr141 => ?_
                      refine JD_one (i := 5) (by kernel_rfl) ?_
                      refine JO_call rfl (wants_none rfl) rfl Try.call59 rfl (Ca_of0 fun w hh => c_impl_keyOf _ w (fun _ hk => hk.elim) _ _ (hh.rd0 8 rfl) _ hr141) (fun _ => ?_)
                      refine JD_take (i := 6) hp137 rfl (by kernel_rfl) (by kernel_rfl) (by kernel_rfl) (wants_none rfl) rfl (ex_lookup_ok (x := r140) (z := 0) 5 key_9 Try.underlying96 zi_3 rfl rfl rfl rfl rfl) ?_
                      refine JD_take (i := 7) hp137 rfl (by kernel_rfl) (by kernel_rfl) (by kernel_rfl) (wants_none rfl) rfl (ex_move rfl) ?_
                      refine JD_take (i := 8) hp137 rfl (by kernel_rfl) (by kernel_rfl) (by kernel_rfl) (wants_none rfl) rfl (ex_extract rfl rfl) ?_
                      refine JD_take (i := 9) hp137 rfl (by kernel_rfl) (by kernel_rfl) (by kernel_rfl) (wants_none rfl) rfl (ex_extract rfl rfl) ?_
                      refine JD_take (i := 10) hp137 rfl (by kernel_rfl) (by kernel_rfl) (by kernel_rfl) (wants_none rfl) rfl (ex_assign rfl) ?_
                      refine JD_take (i := 11) hp137 rfl (by kernel_rfl) (by kernel_rfl) (by kernel_rfl) (wants_none rfl) rfl (ex_assign rfl) ?_
                      refine JD_done (by kernel_rfl) ?_
                      refine N_then ?_
                      refine J_seq ?_
                      refine J_cut' (S' := Unit) (G' := Unit) (fun _ _ => [(11, .pointer (some ⟨b7, 0, none⟩)), (12, .int .i64 ((mget s40.2.1 r140).getD 0))]) (fun _ _ => [.ow 102 g41 s40.1, mpf Value.string (Value.int .i64) b6 s40.2.1, .bx b7 98 [g41, .map (some b6), .bool false]]) ?_ (fun s142 g143 => ?_)
                      · refine J_block ?_
                        refine J_seq ?_
                        refine J_region ?_
                        refine JL_q (wants_none rfl) rfl (ex_move rfl) ?_
                        refine JL_q (wants_none rfl) rfl (ex_not rfl) ?_
                        refine JL_q (wants_none rfl) rfl (ex_move rfl) ?_
                        refine JL_cond (fun h144 => ?_) (fun h144 => ?_)
                        · refine JL_q (wants_some rfl rfl rfl h144) rfl (ex_move rfl) ?_
                          refine JL_q (wants_some rfl rfl rfl h144) rfl (ex_nilCheck rfl) ?_
                          refine JL_q (wants_some rfl rfl rfl h144) rfl (ex_fieldAddr fi_98_2 rfl rfl) ?_
                          refine JL_q (wants_some rfl rfl rfl h144) rfl (ex_load_bx 6 ti_4 rfl rfl rfl) ?_
                          refine JL_q (wants_none rfl) rfl (ex_pick_true rfl h144 rfl) ?_
                          refine JL_q (wants_none rfl) rfl (ex_assign rfl) ?_
                          refine JL_nil ?_
                          refine N_then ?_
                          refine J_if_false rfl rfl ?_
                          refine J_seq ?_
                          refine J_region ?_
                          refine JL_q (wants_none rfl) rfl (ex_move rfl) ?_
                          refine JL_q (wants_none rfl) rfl (ex_not rfl) ?_
                          refine JL_q (wants_none rfl) rfl (ex_assign rfl) ?_
                          refine JL_nil ?_
                          refine N_then ?_
                          refine J_if_true rfl h144 ?_
                          refine J_seq ?_
                          refine J_region ?_
                          refine JL_q (wants_none rfl) rfl (ex_assign rfl) ?_
                          refine JL_q (wants_none rfl) rfl (ex_assign rfl) ?_
                          refine JL_nil ?_
                          refine N_then ?_
                          refine J_ret ?_
                          refine N_block_ret ?_
                          refine N_mid_ret ?_
                          refine N_then_ret ?_
                          refine N_ctx (fun w hh => SH.od_nil (α := (List Int)) 23 hh) ?_
                          exact N_ret2 rfl (rv_tmp rfl) (rv_tmp rfl) (fun w hh => ⟨((.slice none 0 0 : Value), ([] : List Nat)), rfl, hh.sel [0] rfl⟩)
                        · refine JL_passed rfl rfl rfl h144 ?_
                          refine JL_passed rfl rfl rfl h144 ?_
                          refine JL_passed rfl rfl rfl h144 ?_
                          refine JL_passed rfl rfl rfl h144 ?_
                          refine JL_q (wants_none rfl) rfl (ex_pick_false rfl h144 rfl) ?_
                          refine JL_q (wants_none rfl) rfl (ex_assign rfl) ?_
                          refine JL_nil ?_
                          refine N_then ?_
                          refine J_if_false rfl rfl ?_
                          refine J_seq ?_
                          refine J_region ?_
                          refine JL_q (wants_none rfl) rfl (ex_move rfl) ?_
                          refine JL_q (wants_none rfl) rfl (ex_not rfl) ?_
                          refine JL_q (wants_none rfl) rfl (ex_assign rfl) ?_
                          refine JL_nil ?_
                          refine N_then ?_
                          refine J_if_false rfl h144 ?_
                          refine J_skip ?_
                          refine N_block ?_
                          exact N_meet' () ⟨rfl, rfl, trivial⟩ [4, 5, 6] rfl rfl
                      · refine N_then ?_
                        refine J_seq ?_
                        refine J_region ?_
                        refine JL_st (wants_none rfl) rfl (st_buildSlice_od (vs := []) (B := ([] : List Nat)) ([] : List (List Int)) [] Try.underlying33 ti_23 zi_23 rfl rfl rfl rfl rfl (fun w hh => dwv_nil)) (fun b145 => ?_)
                        refine JL_q (wants_none rfl) rfl (ex_assign rfl) ?_
                        refine JL_nil ?_
                        refine N_then ?_
                        refine J_seq ?_
                        refine J_loop' (S := Int × (List (List Int))) (G := Value × List Nat) (F_impl_DerivationOf_L4 s40) (fun s146 g147 => [(11, .pointer (some ⟨b7, 0, none⟩)), (12, .int .i64 s146.1), (14, g147.1)]) (fun s146 g147 => [.ow 102 g41 s40.1, mpf Value.string (Value.int .i64) b6 s40.2.1, .bx b7 98 [g41, .map (some b6), .bool false], .od 23 g147.1 s146.2 g147.2]) (((mget s40.2.1 r140).getD 0), ([] : List (List Int))) ((.slice (some ⟨b145, 0, none⟩) 0 0), ([] : List Nat)) ⟨rfl, rfl, rfl, trivial⟩ [1, 2, 3, 0] rfl rfl (fun s146 g147 => ?_) (fun s146 g147 => ?_)
                        · obtain ⟨g147_0, g147_1⟩ := g147
                          unfold F_impl_DerivationOf_L4
                          refine J_seq ?_
                          refine J_seq ?_
                          refine J_region ?_
                          refine JL_q (wants_none rfl) rfl (ex_move rfl) ?_
                          refine JL_q (wants_none rfl) rfl (ex_nilCheck rfl) ?_
                          refine JL_q (wants_none rfl) rfl (ex_fieldAddr fi_98_0 rfl rfl) ?_
                          refine JL_q (wants_none rfl) rfl (ex_load_bx 2 ti_95 rfl rfl rfl) ?_
                          refine JL_q (wants_none rfl) rfl (ex_move rfl) ?_
                          refine JL_bnd fun y148 hy149 => ?_
                          refine JL_ow_open (v := g41) 0 rfl hy149 ?_; rintro b150 cap151 rfl
                          refine JL_q (wants_none rfl) rfl (ex_index_ow 0 Try.underlying95 ti_102 rfl rfl rfl hy149) ?_
                          refine JL_q (wants_none rfl) rfl (ex_fieldAddr fi_102_1 rfl rfl) ?_
                          refine JL_q (wants_none rfl) rfl (ex_load_ow_part_int 0 (Gfound.at_parent _) rfl ti_3 rfl rfl hy149) ?_
                          refine JL_q (wants_none rfl) rfl (ex_geq rfl rfl) ?_
                          refine JL_nil ?_
                          refine N_then ?_
                          refine J_if rfl (fun h152 => ?_) (fun h152 => ?_)
                          · refine J_skip ?_
                            refine N_then ?_
                            refine J_seq ?_
                            refine J_block ?_
                            refine J_draw [3] (by kernel_rfl) ?_
                            refine JP_take (i := 0) [0, 1, 2] [3] rfl (by kernel_rfl) (by kernel_rfl) (by kernel_rfl) rfl rfl (wants_none rfl) rfl (ex_move rfl) ?_
                            refine JP_take (i := 1) [0, 1, 2] [3] rfl (by kernel_rfl) (by kernel_rfl) (by kernel_rfl) rfl rfl (wants_none rfl) rfl (ex_move rfl) ?_
                            refine JP_take (i := 2) [0, 1, 2] [3] rfl (by kernel_rfl) (by kernel_rfl) (by kernel_rfl) rfl rfl (wants_none rfl) rfl (ex_nilCheck rfl) ?_
                            refine JP_take (i := 3) [0, 1, 2] [3] rfl (by kernel_rfl) (by kernel_rfl) (by kernel_rfl) rfl rfl (wants_none rfl) rfl (ex_fieldAddr fi_98_0 rfl rfl) ?_
                            refine JP_take (i := 4) [0, 1, 2] [3] rfl (by kernel_rfl) (by kernel_rfl) (by kernel_rfl) rfl rfl (wants_none rfl) rfl (ex_load_bx 2 ti_95 rfl rfl rfl) ?_
                            refine JP_take (i := 5) [0, 1, 2] [3] rfl (by kernel_rfl) (by kernel_rfl) (by kernel_rfl) rfl rfl (wants_none rfl) rfl (ex_move rfl) ?_
                            refine JP_bnd fun y153 hy154 => ?_
                            refine JP_take (i := 6) [0, 1, 2] [3] rfl (by kernel_rfl) (by kernel_rfl) (by kernel_rfl) rfl rfl (wants_none rfl) rfl (ex_index_ow 0 Try.underlying95 ti_102 rfl rfl rfl hy154) ?_
                            refine JP_take (i := 7) [0, 1, 2] [3] rfl (by kernel_rfl) (by kernel_rfl) (by kernel_rfl) rfl rfl (wants_none rfl) rfl (ex_fieldAddr fi_102_0 rfl rfl) ?_
                            refine JP_take (i := 8) [0, 1, 2] [3] rfl (by kernel_rfl) (by kernel_rfl) (by kernel_rfl) rfl rfl (wants_none rfl) rfl (ex_fieldAddr fi_100_0 rfl rfl) ?_
                            refine JP_take (i := 9) [0, 1, 2] [3] rfl (by kernel_rfl) (by kernel_rfl) (by kernel_rfl) rfl rfl (wants_none rfl) rfl (ex_load_ow_part_int 0 (Part.trans (Gfound.at_move _) (Gmove.at_rule _)) rfl ti_2 rfl rfl hy154) ?_
                            refine JP_take (i := 10) [0, 1, 2] [3] rfl (by kernel_rfl) (by kernel_rfl) (by kernel_rfl) rfl rfl (wants_none rfl) rfl (ex_move rfl) ?_
                            refine JP_take (i := 11) [0, 1, 2] [3] rfl (by kernel_rfl) (by kernel_rfl) (by kernel_rfl) rfl rfl (wants_none rfl) rfl (ex_nilCheck rfl) ?_
                            refine JP_take (i := 12) [0, 1, 2] [3] rfl (by kernel_rfl) (by kernel_rfl) (by kernel_rfl) rfl rfl (wants_none rfl) rfl (ex_fieldAddr fi_98_0 rfl rfl) ?_
                            refine JP_take (i := 13) [0, 1, 2] [3] rfl (by kernel_rfl) (by kernel_rfl) (by kernel_rfl) rfl rfl (wants_none rfl) rfl (ex_load_bx 2 ti_95 rfl rfl rfl) ?_
                            refine JP_take (i := 14) [0, 1, 2] [3] rfl (by kernel_rfl) (by kernel_rfl) (by kernel_rfl) rfl rfl (wants_none rfl) rfl (ex_move rfl) ?_
                            refine JP_bnd fun y155 hy156 => ?_
                            refine JP_take (i := 15) [0, 1, 2] [3] rfl (by kernel_rfl) (by kernel_rfl) (by kernel_rfl) rfl rfl (wants_none rfl) rfl (ex_index_ow 0 Try.underlying95 ti_102 rfl rfl rfl hy156) ?_
                            refine JP_take (i := 16) [0, 1, 2] [3] rfl (by kernel_rfl) (by kernel_rfl) (by kernel_rfl) rfl rfl (wants_none rfl) rfl (ex_fieldAddr fi_102_0 rfl rfl) ?_
                            refine JP_take (i := 17) [0, 1, 2] [3] rfl (by kernel_rfl) (by kernel_rfl) (by kernel_rfl) rfl rfl (wants_none rfl) rfl (ex_fieldAddr fi_100_1 rfl rfl) ?_
                            refine JP_take (i := 18) [0, 1, 2] [3] rfl (by kernel_rfl) (by kernel_rfl) (by kernel_rfl) rfl rfl (wants_none rfl) rfl (ex_load_ow_part_int 0 (Part.trans (Gfound.at_move _) (Gmove.at_at_ _)) rfl ti_2 rfl rfl hy156) ?_
                            refine JP_go [0, 1, 2] [3] rfl rfl rfl (fun w158 h1_159 hp157 => ?_)
                            refine JD_one (i := 19) (by kernel_rfl) ?_
                            refine JO_st rfl (wants_none rfl) rfl (st_buildSlice (vs := [.int .i64 ((⟨y153.move_rule, y153.move_at_, y153.move_word⟩ : Gmove).rule), .int .i64 ((⟨y155.move_rule, y155.move_at_, y155.move_word⟩ : Gmove).at_)]) ([(⟨y153.move_rule, y153.move_at_, y153.move_word⟩ : Gmove).rule, (⟨y155.move_rule, y155.move_at_, y155.move_word⟩ : Gmove).at_] : List Int) Try.underlying23 ti_2 zi_2 rfl rfl rfl (fun w hh => ⟨(Rd.mk_int _ _ _), (Rd.mk_int _ _ _), trivial⟩)) (fun _ hk => nomatch hk) (fun b160 => ?_)
                            refine JD_one (i := 20) (by kernel_rfl) ?_
                            refine JO_ctx (fun w hh => hh.tokf 0 rfl rfl) (tokf_owns (i := 0) rfl) ?_
                            refine JO_st rfl (wants_none rfl) rfl (st_buildSlice_od (vs := [(.slice (some ⟨b160, 0, none⟩) 2 2)]) (B := ((((.slice (some ⟨b160, 0, none⟩) 2 2) : Value).ownBlock.toList ++ []) ++ [])) ([([(⟨y153.move_rule, y153.move_at_, y153.move_word⟩ : Gmove).rule, (⟨y155.move_rule, y155.move_at_, y155.move_word⟩ : Gmove).at_] : List Int)] : List (List Int)) [0] Try.underlying33 ti_23 zi_23 rfl rfl rfl rfl rfl (fun w hh => (dwv_cons (hh.dw 0 rfl) dwv_nil))) (fun _ hk => nomatch hk) (fun b161 => ?_)
                            refine JD_bnd fun z162 hz163 => ?_
                            refine JD_one (i := 21) (by kernel_rfl) ?_
                            refine JO_st rfl (wants_none rfl) rfl (st_append_od 6 0 Try.underlying33 ti_23 zi_23 rfl bi_23 rfl rfl rfl rfl rfl rfl hz163) (sub_od 0 rfl) (fun v164 => ?_)
                            refine JD_take (i := 22) hp157 rfl (by kernel_rfl) (by kernel_rfl) (by kernel_rfl) (wants_none rfl) rfl (ex_assign rfl) ?_
                            refine JD_done (by kernel_rfl) ?_
                            refine N_block ?_
                            refine N_then ?_
                            refine J_region ?_
                            refine JL_q (wants_none rfl) rfl (ex_move rfl) ?_
                            refine JL_q (wants_none rfl) rfl (ex_nilCheck rfl) ?_
                            refine JL_q (wants_none rfl) rfl (ex_fieldAddr fi_98_0 rfl rfl) ?_
                            refine JL_q (wants_none rfl) rfl (ex_load_bx 5 ti_95 rfl rfl rfl) ?_
                            refine JL_q (wants_none rfl) rfl (ex_move rfl) ?_
                            refine JL_bnd fun y165 hy166 => ?_
                            refine JL_q (wants_none rfl) rfl (ex_index_ow 3 Try.underlying95 ti_102 rfl rfl rfl hy166) ?_
                            refine JL_q (wants_none rfl) rfl (ex_fieldAddr fi_102_1 rfl rfl) ?_
                            refine JL_q (wants_none rfl) rfl (ex_load_ow_part_int 3 (Gfound.at_parent _) rfl ti_3 rfl rfl hy166) ?_
                            refine JL_q (wants_none rfl) rfl (ex_assign rfl) ?_
                            refine JL_nil ?_
                            exact N_next' (v164, (g147_1 ++ ((((.slice (some ⟨b160, 0, none⟩) 2 2) : Value).ownBlock.toList ++ []) ++ []))) ⟨rfl, rfl, rfl, trivial⟩ [3, 4, 5, 6] rfl rfl
                          · refine J_exit ?_
                            refine N_then_exit ?_
                            exact N_break' (g147_0, g147_1) ⟨rfl, rfl, rfl, trivial⟩ [0, 1, 2, 3] rfl rfl
                        · obtain ⟨g147_0, g147_1⟩ := g147
                          refine N_then ?_
                          refine J_seq ?_
                          refine J_seq ?_
                          refine J_region ?_
                          refine JL_q (wants_none rfl) rfl (ex_move rfl) ?_
                          refine JL_q (wants_none rfl) rfl (ex_od 3 rfl (ex_len_ow 3 Try.underlying33 rfl rfl)) ?_
                          refine JL_q (wants_none rfl) rfl (ex_gtr rfl rfl) ?_
                          refine JL_nil ?_
                          refine N_then ?_
                          refine J_if rfl (fun h167 => ?_) (fun h167 => ?_)
                          · refine J_seq ?_
                            refine J_region ?_
                            refine JL_q (wants_none rfl) rfl (ex_assign rfl) ?_
                            refine JL_q (wants_none rfl) rfl (ex_assign rfl) ?_
                            refine JL_nil ?_
                            refine N_then ?_
                            refine J_ret ?_
                            refine N_then_ret ?_
                            refine N_ctx (fun w hh => SH.od_nil (α := (List Int)) 23 hh) ?_
                            exact N_ret2 rfl (rv_tmp rfl) (rv_tmp rfl) (fun w hh => ⟨((.slice none 0 0 : Value), ([] : List Nat)), rfl, hh.sel [0] rfl⟩)
                          · refine J_skip ?_
                            refine N_then ?_
                            refine J_seq ?_
                            refine J_region ?_
                            refine JL_q (wants_none rfl) rfl (ex_move rfl) ?_
                            refine JL_bnd fun z168 hz169 => ?_
                            refine JL_rev_od 3 rc_slices_Reverse_SSint64_Sint64 rfl (wants_none rfl) rfl Try.call60 rfl rfl hz169 ?_
                            refine JL_nil ?_
                            refine N_then ?_
                            refine J_seq ?_
                            refine J_region ?_
                            refine JL_q (wants_none rfl) rfl (ex_move rfl) ?_
                            refine JL_q (wants_none rfl) rfl (ex_assign rfl) ?_
                            refine JL_q (wants_none rfl) rfl (ex_assign rfl) ?_
                            refine JL_nil ?_
                            refine N_then ?_
                            refine J_ret ?_
                            exact N_ret2 rfl (rv_tmp rfl) (rv_tmp rfl) (fun w hh => ⟨(g147_0, g147_1), rfl, hh.sel [3] rfl⟩)
                    · refine J_skip ?_
                      refine N_block ?_
                      refine N_then ?_
                      refine J_region ?_
                      refine JL_q (wants_none rfl) rfl (ex_add rfl rfl) ?_
                      refine JL_q (wants_none rfl) rfl (ex_move rfl) ?_
                      refine JL_nil ?_
                      exact N_next' g41 ⟨rfl, rfl, rfl, rfl, rfl, rfl, rfl, trivial⟩ [3, 4, 5, 6, 7, 8] rfl rfl
                · refine J_exit ?_
                  refine N_then_exit ?_
                  exact N_break' g41 ⟨rfl, rfl, rfl, rfl, rfl, rfl, rfl, trivial⟩ [0, 1, 2, 3, 4, 5] rfl rfl
              · refine N_block ?_
                refine N_then ?_
                refine J_region ?_
                refine JL_q (wants_none rfl) rfl (ex_move rfl) ?_
                refine JL_q (wants_none rfl) rfl (ex_add rfl rfl) ?_
                refine JL_q (wants_none rfl) rfl (ex_assign rfl) ?_
                refine JL_nil ?_
                exact N_next' g41 ⟨rfl, rfl, rfl, rfl, trivial⟩ [0, 1, 2, 3, 5] rfl rfl
        · refine J_exit ?_
          refine N_then_exit ?_
          exact N_break' g26 ⟨rfl, rfl, rfl, rfl, trivial⟩ [0, 1, 2, 3, 4] rfl rfl
      · refine N_then ?_
        refine J_seq ?_
        refine J_region ?_
        refine JL_q (wants_none rfl) rfl (ex_move rfl) ?_
        refine JL_q (wants_none rfl) rfl (ex_assign rfl) ?_
        refine JL_nil ?_
        refine N_then ?_
        refine J_ret ?_
        refine N_inl1 hK5 rfl (rv_tmp rfl) ?_
        refine JL_q (wants_none rfl) rfl (ex_assign rfl) ?_
        refine JL_nil ?_
        refine N_then ?_
        refine J_seq ?_
        refine J_draw [] (by kernel_rfl) ?_
        refine JP_take (i := 0) [0, 1, 2, 3, 4] [] rfl (by kernel_rfl) (by kernel_rfl) (by kernel_rfl) rfl rfl (wants_none rfl) rfl (ex_move rfl) ?_
        refine JP_take (i := 1) [0, 1, 2, 3, 4] [] rfl (by kernel_rfl) (by kernel_rfl) (by kernel_rfl) rfl rfl (wants_none rfl) rfl (ex_nilCheck rfl) ?_
        refine JP_take (i := 2) [0, 1, 2, 3, 4] [] rfl (by kernel_rfl) (by kernel_rfl) (by kernel_rfl) rfl rfl (wants_none rfl) rfl (ex_fieldAddr fi_98_1 rfl rfl) ?_
        refine JP_take (i := 3) [0, 1, 2, 3, 4] [] rfl (by kernel_rfl) (by kernel_rfl) (by kernel_rfl) rfl rfl (wants_none rfl) rfl (ex_load_bx 3 ti_96 rfl rfl rfl) ?_
        refine JP_take (i := 4) [0, 1, 2, 3, 4] [] rfl (by kernel_rfl) (by kernel_rfl) (by kernel_rfl) rfl rfl (wants_none rfl) rfl (ex_move rfl) ?_
        refine JP_go [0, 1, 2, 3, 4] [] rfl rfl rfl (fun w171 h1_172 hp170 => ?_)
        refine JD_bnd fun r173 hr174 => ?_
        refine JD_one (i := 5) (by kernel_rfl) ?_
        refine JO_call rfl (wants_none rfl) rfl Try.call59 rfl (Ca_of0 fun w hh => c_impl_keyOf _ w (fun _ hk => hk.elim) _ _ (hh.rd0 4 rfl) _ hr174) (fun _ => ?_)
        refine JD_take (i := 6) hp170 rfl (by kernel_rfl) (by kernel_rfl) (by kernel_rfl) (wants_none rfl) rfl (ex_lookup_ok (x := r173) (z := 0) 2 key_9 Try.underlying96 zi_3 rfl rfl rfl rfl rfl) ?_
        refine JD_take (i := 7) hp170 rfl (by kernel_rfl) (by kernel_rfl) (by kernel_rfl) (wants_none rfl) rfl (ex_move rfl) ?_
        refine JD_take (i := 8) hp170 rfl (by kernel_rfl) (by kernel_rfl) (by kernel_rfl) (wants_none rfl) rfl (ex_extract rfl rfl) ?_
        refine JD_take (i := 9) hp170 rfl (by kernel_rfl) (by kernel_rfl) (by kernel_rfl) (wants_none rfl) rfl (ex_extract rfl rfl) ?_
        refine JD_take (i := 10) hp170 rfl (by kernel_rfl) (by kernel_rfl) (by kernel_rfl) (wants_none rfl) rfl (ex_assign rfl) ?_
        refine JD_take (i := 11) hp170 rfl (by kernel_rfl) (by kernel_rfl) (by kernel_rfl) (wants_none rfl) rfl (ex_assign rfl) ?_
        refine JD_done (by kernel_rfl) ?_
        refine N_then ?_
        refine J_seq ?_
        refine J_cut' (S' := Unit) (G' := Unit) (fun _ _ => [(11, .pointer (some ⟨b7, 0, none⟩)), (12, .int .i64 ((mget s25.2.1 r173).getD 0))]) (fun _ _ => [.ow 102 g26 s25.1, mpf Value.string (Value.int .i64) b6 s25.2.1, .bx b7 98 [g26, .map (some b6), .bool s25.2.2.1]]) ?_ (fun s175 g176 => ?_)
        · refine J_block ?_
          refine J_seq ?_
          refine J_region ?_
          refine JL_q (wants_none rfl) rfl (ex_move rfl) ?_
          refine JL_q (wants_none rfl) rfl (ex_not rfl) ?_
          refine JL_q (wants_none rfl) rfl (ex_move rfl) ?_
          refine JL_cond (fun h177 => ?_) (fun h177 => ?_)
          · refine JL_q (wants_some rfl rfl rfl h177) rfl (ex_move rfl) ?_
            refine JL_q (wants_some rfl rfl rfl h177) rfl (ex_nilCheck rfl) ?_
            refine JL_q (wants_some rfl rfl rfl h177) rfl (ex_fieldAddr fi_98_2 rfl rfl) ?_
            refine JL_q (wants_some rfl rfl rfl h177) rfl (ex_load_bx 3 ti_4 rfl rfl rfl) ?_
            refine JL_q (wants_none rfl) rfl (ex_pick_true rfl h177 rfl) ?_
            refine JL_q (wants_none rfl) rfl (ex_assign rfl) ?_
            refine JL_nil ?_
            refine N_then ?_
            refine J_if rfl (fun h178 => ?_) (fun h178 => ?_)
            · refine J_seq ?_
              refine J_region ?_
              refine JL_q (wants_none rfl) rfl (ex_assign rfl) ?_
              refine JL_q (wants_none rfl) rfl (ex_assign rfl) ?_
              refine JL_nil ?_
              refine N_then ?_
              refine J_ret ?_
              refine N_block_ret ?_
              refine N_mid_ret ?_
              refine N_then_ret ?_
              refine N_ctx (fun w hh => SH.od_nil (α := (List Int)) 23 hh) ?_
              exact N_ret2 rfl (rv_tmp rfl) (rv_tmp rfl) (fun w hh => ⟨((.slice none 0 0 : Value), ([] : List Nat)), rfl, hh.sel [0] rfl⟩)
            · refine J_seq ?_
              refine J_region ?_
              refine JL_q (wants_none rfl) rfl (ex_move rfl) ?_
              refine JL_q (wants_none rfl) rfl (ex_not rfl) ?_
              refine JL_q (wants_none rfl) rfl (ex_assign rfl) ?_
              refine JL_nil ?_
              refine N_then ?_
              refine J_if_true rfl h177 ?_
              refine J_seq ?_
              refine J_region ?_
              refine JL_q (wants_none rfl) rfl (ex_assign rfl) ?_
              refine JL_q (wants_none rfl) rfl (ex_assign rfl) ?_
              refine JL_nil ?_
              refine N_then ?_
              refine J_ret ?_
              refine N_block_ret ?_
              refine N_mid_ret ?_
              refine N_then_ret ?_
              refine N_ctx (fun w hh => SH.od_nil (α := (List Int)) 23 hh) ?_
              exact N_ret2 rfl (rv_tmp rfl) (rv_tmp rfl) (fun w hh => ⟨((.slice none 0 0 : Value), ([] : List Nat)), rfl, hh.sel [0] rfl⟩)
          · refine JL_passed rfl rfl rfl h177 ?_
            refine JL_passed rfl rfl rfl h177 ?_
            refine JL_passed rfl rfl rfl h177 ?_
            refine JL_passed rfl rfl rfl h177 ?_
            refine JL_q (wants_none rfl) rfl (ex_pick_false rfl h177 rfl) ?_
            refine JL_q (wants_none rfl) rfl (ex_assign rfl) ?_
            refine JL_nil ?_
            refine N_then ?_
            refine J_if_false rfl rfl ?_
            refine J_seq ?_
            refine J_region ?_
            refine JL_q (wants_none rfl) rfl (ex_move rfl) ?_
            refine JL_q (wants_none rfl) rfl (ex_not rfl) ?_
            refine JL_q (wants_none rfl) rfl (ex_assign rfl) ?_
            refine JL_nil ?_
            refine N_then ?_
            refine J_if_false rfl h177 ?_
            refine J_skip ?_
            refine N_block ?_
            exact N_meet' () ⟨rfl, rfl, trivial⟩ [1, 2, 3] rfl rfl
        · refine N_then ?_
          refine J_seq ?_
          refine J_region ?_
          refine JL_st (wants_none rfl) rfl (st_buildSlice_od (vs := []) (B := ([] : List Nat)) ([] : List (List Int)) [] Try.underlying33 ti_23 zi_23 rfl rfl rfl rfl rfl (fun w hh => dwv_nil)) (fun b179 => ?_)
          refine JL_q (wants_none rfl) rfl (ex_assign rfl) ?_
          refine JL_nil ?_
          refine N_then ?_
          refine J_seq ?_
          refine J_loop' (S := Int × (List (List Int))) (G := Value × List Nat) (F_impl_DerivationOf_L5 s25) (fun s180 g181 => [(11, .pointer (some ⟨b7, 0, none⟩)), (12, .int .i64 s180.1), (14, g181.1)]) (fun s180 g181 => [.ow 102 g26 s25.1, mpf Value.string (Value.int .i64) b6 s25.2.1, .bx b7 98 [g26, .map (some b6), .bool s25.2.2.1], .od 23 g181.1 s180.2 g181.2]) (((mget s25.2.1 r173).getD 0), ([] : List (List Int))) ((.slice (some ⟨b179, 0, none⟩) 0 0), ([] : List Nat)) ⟨rfl, rfl, rfl, trivial⟩ [1, 2, 3, 0] rfl rfl (fun s180 g181 => ?_) (fun s180 g181 => ?_)
          · obtain ⟨g181_0, g181_1⟩ := g181
            unfold F_impl_DerivationOf_L5
            refine J_seq ?_
            refine J_seq ?_
            refine J_region ?_
            refine JL_q (wants_none rfl) rfl (ex_move rfl) ?_
            refine JL_q (wants_none rfl) rfl (ex_nilCheck rfl) ?_
            refine JL_q (wants_none rfl) rfl (ex_fieldAddr fi_98_0 rfl rfl) ?_
            refine JL_q (wants_none rfl) rfl (ex_load_bx 2 ti_95 rfl rfl rfl) ?_
            refine JL_q (wants_none rfl) rfl (ex_move rfl) ?_
            refine JL_bnd fun y182 hy183 => ?_
            refine JL_ow_open (v := g26) 0 rfl hy183 ?_; rintro b184 cap185 rfl
            refine JL_q (wants_none rfl) rfl (ex_index_ow 0 Try.underlying95 ti_102 rfl rfl rfl hy183) ?_
            refine JL_q (wants_none rfl) rfl (ex_fieldAddr fi_102_1 rfl rfl) ?_
            refine JL_q (wants_none rfl) rfl (ex_load_ow_part_int 0 (Gfound.at_parent _) rfl ti_3 rfl rfl hy183) ?_
            refine JL_q (wants_none rfl) rfl (ex_geq rfl rfl) ?_
            refine JL_nil ?_
            refine N_then ?_
            refine J_if rfl (fun h186 => ?_) (fun h186 => ?_)
            · refine J_skip ?_
              refine N_then ?_
              refine J_seq ?_
              refine J_block ?_
              refine J_draw [3] (by kernel_rfl) ?_
              refine JP_take (i := 0) [0, 1, 2] [3] rfl (by kernel_rfl) (by kernel_rfl) (by kernel_rfl) rfl rfl (wants_none rfl) rfl (ex_move rfl) ?_
              refine JP_take (i := 1) [0, 1, 2] [3] rfl (by kernel_rfl) (by kernel_rfl) (by kernel_rfl) rfl rfl (wants_none rfl) rfl (ex_move rfl) ?_
              refine JP_take (i := 2) [0, 1, 2] [3] rfl (by kernel_rfl) (by kernel_rfl) (by kernel_rfl) rfl rfl (wants_none rfl) rfl (ex_nilCheck rfl) ?_
              refine JP_take (i := 3) [0, 1, 2] [3] rfl (by kernel_rfl) (by kernel_rfl) (by kernel_rfl) rfl rfl (wants_none rfl) rfl (ex_fieldAddr fi_98_0 rfl rfl) ?_
              refine JP_take (i := 4) [0, 1, 2] [3] rfl (by kernel_rfl) (by kernel_rfl) (by kernel_rfl) rfl rfl (wants_none rfl) rfl (ex_load_bx 2 ti_95 rfl rfl rfl) ?_
              refine JP_take (i := 5) [0, 1, 2] [3] rfl (by kernel_rfl) (by kernel_rfl) (by kernel_rfl) rfl rfl (wants_none rfl) rfl (ex_move rfl) ?_
              refine JP_bnd fun y187 hy188 => ?_
              refine JP_take (i := 6) [0, 1, 2] [3] rfl (by kernel_rfl) (by kernel_rfl) (by kernel_rfl) rfl rfl (wants_none rfl) rfl (ex_index_ow 0 Try.underlying95 ti_102 rfl rfl rfl hy188) ?_
              refine JP_take (i := 7) [0, 1, 2] [3] rfl (by kernel_rfl) (by kernel_rfl) (by kernel_rfl) rfl rfl (wants_none rfl) rfl (ex_fieldAddr fi_102_0 rfl rfl) ?_
              refine JP_take (i := 8) [0, 1, 2] [3] rfl (by kernel_rfl) (by kernel_rfl) (by kernel_rfl) rfl rfl (wants_none rfl) rfl (ex_fieldAddr fi_100_0 rfl rfl) ?_
              refine JP_take (i := 9) [0, 1, 2] [3] rfl (by kernel_rfl) (by kernel_rfl) (by kernel_rfl) rfl rfl (wants_none rfl) rfl (ex_load_ow_part_int 0 (Part.trans (Gfound.at_move _) (Gmove.at_rule _)) rfl ti_2 rfl rfl hy188) ?_
              refine JP_take (i := 10) [0, 1, 2] [3] rfl (by kernel_rfl) (by kernel_rfl) (by kernel_rfl) rfl rfl (wants_none rfl) rfl (ex_move rfl) ?_
              refine JP_take (i := 11) [0, 1, 2] [3] rfl (by kernel_rfl) (by kernel_rfl) (by kernel_rfl) rfl rfl (wants_none rfl) rfl (ex_nilCheck rfl) ?_
              refine JP_take (i := 12) [0, 1, 2] [3] rfl (by kernel_rfl) (by kernel_rfl) (by kernel_rfl) rfl rfl (wants_none rfl) rfl (ex_fieldAddr fi_98_0 rfl rfl) ?_
              refine JP_take (i := 13) [0, 1, 2] [3] rfl (by kernel_rfl) (by kernel_rfl) (by kernel_rfl) rfl rfl (wants_none rfl) rfl (ex_load_bx 2 ti_95 rfl rfl rfl) ?_
              refine JP_take (i := 14) [0, 1, 2] [3] rfl (by kernel_rfl) (by kernel_rfl) (by kernel_rfl) rfl rfl (wants_none rfl) rfl (ex_move rfl) ?_
              refine JP_bnd fun y189 hy190 => ?_
              refine JP_take (i := 15) [0, 1, 2] [3] rfl (by kernel_rfl) (by kernel_rfl) (by kernel_rfl) rfl rfl (wants_none rfl) rfl (ex_index_ow 0 Try.underlying95 ti_102 rfl rfl rfl hy190) ?_
              refine JP_take (i := 16) [0, 1, 2] [3] rfl (by kernel_rfl) (by kernel_rfl) (by kernel_rfl) rfl rfl (wants_none rfl) rfl (ex_fieldAddr fi_102_0 rfl rfl) ?_
              refine JP_take (i := 17) [0, 1, 2] [3] rfl (by kernel_rfl) (by kernel_rfl) (by kernel_rfl) rfl rfl (wants_none rfl) rfl (ex_fieldAddr fi_100_1 rfl rfl) ?_
              refine JP_take (i := 18) [0, 1, 2] [3] rfl (by kernel_rfl) (by kernel_rfl) (by kernel_rfl) rfl rfl (wants_none rfl) rfl (ex_load_ow_part_int 0 (Part.trans (Gfound.at_move _) (Gmove.at_at_ _)) rfl ti_2 rfl rfl hy190) ?_
              refine JP_go [0, 1, 2] [3] rfl rfl rfl (fun w192 h1_193 hp191 => ?_)
              refine JD_one (i := 19) (by kernel_rfl) ?_
              refine JO_st rfl (wants_none rfl) rfl (st_buildSlice (vs := [.int .i64 ((⟨y187.move_rule, y187.move_at_, y187.move_word⟩ : Gmove).rule), .int .i64 ((⟨y189.move_rule, y189.move_at_, y189.move_word⟩ : Gmove).at_)]) ([(⟨y187.move_rule, y187.move_at_, y187.move_word⟩ : Gmove).rule, (⟨y189.move_rule, y189.move_at_, y189.move_word⟩ : Gmove).at_] : List Int) Try.underlying23 ti_2 zi_2 rfl rfl rfl (fun w hh => ⟨(Rd.mk_int _ _ _), (Rd.mk_int _ _ _), trivial⟩)) (fun _ hk => nomatch hk) (fun b194 => ?_)
              refine JD_one (i := 20) (by kernel_rfl) ?_
              refine JO_ctx (fun w hh => hh.tokf 0 rfl rfl) (tokf_owns (i := 0) rfl) ?_
              refine JO_st rfl (wants_none rfl) rfl (st_buildSlice_od (vs := [(.slice (some ⟨b194, 0, none⟩) 2 2)]) (B := ((((.slice (some ⟨b194, 0, none⟩) 2 2) : Value).ownBlock.toList ++ []) ++ [])) ([([(⟨y187.move_rule, y187.move_at_, y187.move_word⟩ : Gmove).rule, (⟨y189.move_rule, y189.move_at_, y189.move_word⟩ : Gmove).at_] : List Int)] : List (List Int)) [0] Try.underlying33 ti_23 zi_23 rfl rfl rfl rfl rfl (fun w hh => (dwv_cons (hh.dw 0 rfl) dwv_nil))) (fun _ hk => nomatch hk) (fun b195 => ?_)
              refine JD_bnd fun z196 hz197 => ?_
              refine JD_one (i := 21) (by kernel_rfl) ?_
              refine JO_st rfl (wants_none rfl) rfl (st_append_od 6 0 Try.underlying33 ti_23 zi_23 rfl bi_23 rfl rfl rfl rfl rfl rfl hz197) (sub_od 0 rfl) (fun v198 => ?_)
              refine JD_take (i := 22) hp191 rfl (by kernel_rfl) (by kernel_rfl) (by kernel_rfl) (wants_none rfl) rfl (ex_assign rfl) ?_
              refine JD_done (by kernel_rfl) ?_
              refine N_block ?_
              refine N_then ?_
              refine J_region ?_
              refine JL_q (wants_none rfl) rfl (ex_move rfl) ?_
              refine JL_q (wants_none rfl) rfl (ex_nilCheck rfl) ?_
              refine JL_q (wants_none rfl) rfl (ex_fieldAddr fi_98_0 rfl rfl) ?_
              refine JL_q (wants_none rfl) rfl (ex_load_bx 5 ti_95 rfl rfl rfl) ?_
              refine JL_q (wants_none rfl) rfl (ex_move rfl) ?_
              refine JL_bnd fun y199 hy200 => ?_
              refine JL_q (wants_none rfl) rfl (ex_index_ow 3 Try.underlying95 ti_102 rfl rfl rfl hy200) ?_
              refine JL_q (wants_none rfl) rfl (ex_fieldAddr fi_102_1 rfl rfl) ?_
              refine JL_q (wants_none rfl) rfl (ex_load_ow_part_int 3 (Gfound.at_parent _) rfl ti_3 rfl rfl hy200) ?_
              refine JL_q (wants_none rfl) rfl (ex_assign rfl) ?_
              refine JL_nil ?_
              exact N_next' (v198, (g181_1 ++ ((((.slice (some ⟨b194, 0, none⟩) 2 2) : Value).ownBlock.toList ++ []) ++ []))) ⟨rfl, rfl, rfl, trivial⟩ [3, 4, 5, 6] rfl rfl
            · refine J_exit ?_
              refine N_then_exit ?_
              exact N_break' (g181_0, g181_1) ⟨rfl, rfl, rfl, trivial⟩ [0, 1, 2, 3] rfl rfl
          · obtain ⟨g181_0, g181_1⟩ := g181
            refine N_then ?_
            refine J_seq ?_
            refine J_seq ?_
            refine J_region ?_
            refine JL_q (wants_none rfl) rfl (ex_move rfl) ?_
            refine JL_q (wants_none rfl) rfl (ex_od 3 rfl (ex_len_ow 3 Try.underlying33 rfl rfl)) ?_
            refine JL_q (wants_none rfl) rfl (ex_gtr rfl rfl) ?_
            refine JL_nil ?_
            refine N_then ?_
            refine J_if rfl (fun h201 => ?_) (fun h201 => ?_)
            · refine J_seq ?_
              refine J_region ?_
              refine JL_q (wants_none rfl) rfl (ex_assign rfl) ?_
              refine JL_q (wants_none rfl) rfl (ex_assign rfl) ?_
              refine JL_nil ?_
              refine N_then ?_
              refine J_ret ?_
              refine N_then_ret ?_
              refine N_ctx (fun w hh => SH.od_nil (α := (List Int)) 23 hh) ?_
              exact N_ret2 rfl (rv_tmp rfl) (rv_tmp rfl) (fun w hh => ⟨((.slice none 0 0 : Value), ([] : List Nat)), rfl, hh.sel [0] rfl⟩)
            · refine J_skip ?_
              refine N_then ?_
              refine J_seq ?_
              refine J_region ?_
              refine JL_q (wants_none rfl) rfl (ex_move rfl) ?_
              refine JL_bnd fun z202 hz203 => ?_
              refine JL_rev_od 3 rc_slices_Reverse_SSint64_Sint64 rfl (wants_none rfl) rfl Try.call60 rfl rfl hz203 ?_
              refine JL_nil ?_
              refine N_then ?_
              refine J_seq ?_
              refine J_region ?_
              refine JL_q (wants_none rfl) rfl (ex_move rfl) ?_
              refine JL_q (wants_none rfl) rfl (ex_assign rfl) ?_
              refine JL_q (wants_none rfl) rfl (ex_assign rfl) ?_
              refine JL_nil ?_
              refine N_then ?_
              refine J_ret ?_
              exact N_ret2 rfl (rv_tmp rfl) (rv_tmp rfl) (fun w hh => ⟨(g181_0, g181_1), rfl, hh.sel [3] rfl⟩)
    · refine JO_ctx (fun w hh => hh.tokf 1 rfl rfl) (tokf_owns (i := 1) rfl) ?_
      refine JO_st rfl (wants_none rfl) rfl (st_buildSlice_od (vs := [.agg #[.int .i64 0, .int .i64 0, x10, .int .i64 (-1)]]) (B := (((x10 : Value).ownBlock.toList ++ []) ++ [])) ([(⟨0, 0, r8, (-1)⟩ : Gfound)] : List Gfound) [0] Try.underlying95 ti_102 zi_102 rfl rfl rfl rfl rfl (fun w hh => (dwv_cons (Gfound.dw (hh.dw 0 rfl)) dwv_nil))) (fun _ hk => nomatch hk) (fun b204 => ?_)
      refine JD_one (i := 4) (by kernel_rfl) ?_
      refine JO_q rfl (wants_none rfl) rfl (ex_load_bx 4 ti_95 rfl rfl rfl) ?_
      refine JD_bnd fun z205 hz206 => ?_
      refine JD_one (i := 7) (by kernel_rfl) ?_
      refine JO_ctx (fun w hh => SH.od_nil (α := Gfound) 102 hh) (fun _ hb => hb) ?_
      refine JO_st rfl (wants_none rfl) rfl (st_append_od 0 1 Try.underlying95 ti_102 zi_102 rfl bi_102 rfl rfl rfl rfl rfl rfl hz206) (fun _ hk => absurd hk List.not_mem_nil) (fun v207 => ?_)
      refine JD_take (i := 8) hp18 rfl (by kernel_rfl) (by kernel_rfl) (by kernel_rfl) (wants_none rfl) rfl (ex_nilCheck rfl) ?_
      refine JD_take (i := 9) hp18 rfl (by kernel_rfl) (by kernel_rfl) (by kernel_rfl) (wants_none rfl) rfl (ex_fieldAddr fi_98_0 rfl rfl) ?_
      refine JD_one (i := 10) (by kernel_rfl) ?_
      refine JO_sk rfl (wants_none rfl) (sk_store_bx' 5 ti_95 rfl rfl (fun w hh => (hh.cv_od 0 rfl)) rfl rfl rfl rfl) (sub_bx 0 rfl) ?_
      refine JD_done (by kernel_rfl) ?_
      refine N_inl0 (.inr rfl) hK11 rfl ?_
      refine JL_nil ?_
      refine N_then ?_
      refine J_seq ?_
      refine J_seq ?_
      refine J_region ?_
      refine JL_q (wants_none rfl) rfl (ex_assign rfl) ?_
      refine JL_nil ?_
      refine N_then ?_
      refine J_ctx (fun w hh => hh.od_ow 0 rfl) ?_
      refine J_loop' (S := (List Gfound) × List (ByteArray × Int) × Bool × Int) (G := Value) (F_impl_DerivationOf_L1 p0 p2 p3) (fun s208 g209 => [(0, v0_), (2, .int .i64 p3), (7, .pointer (some ⟨b7, 0, none⟩)), (8, .int .i64 s208.2.2.2)]) (fun s208 g209 => [.rd v0_ p0, .ow 102 g209 s208.1, mpf Value.string (Value.int .i64) b6 s208.2.1, .bx b7 98 [g209, .map (some b6), .bool s208.2.2.1], .rd v2_ p2]) (z205, (mput ([] : List (ByteArray × Int)) r13 ((0 : Nat) : Int)), true, 0) v207 ⟨rfl, rfl, rfl, rfl, trivial⟩ [10, 0, 6, 5, 8] rfl rfl (fun s208 g209 => ?_) (fun s208 g209 => ?_)
      · unfold F_impl_DerivationOf_L1
        refine J_seq ?_
        refine J_seq ?_
        refine J_region ?_
        refine JL_q (wants_none rfl) rfl (ex_move rfl) ?_
        refine JL_q (wants_none rfl) rfl (ex_move rfl) ?_
        refine JL_q (wants_none rfl) rfl (ex_nilCheck rfl) ?_
        refine JL_q (wants_none rfl) rfl (ex_fieldAddr fi_98_0 rfl rfl) ?_
        refine JL_q (wants_none rfl) rfl (ex_load_bx 3 ti_95 rfl rfl rfl) ?_
        refine JL_q (wants_none rfl) rfl (ex_len_ow 1 Try.underlying95 rfl rfl) ?_
        refine JL_q (wants_none rfl) rfl (ex_lss rfl rfl) ?_
        refine JL_nil ?_
        refine N_then ?_
        refine J_if rfl (fun h210 => ?_) (fun h210 => ?_)
        · refine J_skip ?_
          refine N_then ?_
          refine J_seq ?_
          refine J_block ?_
          refine J_seq ?_
          refine J_seq ?_
          refine J_region ?_
          refine JL_q (wants_none rfl) rfl (ex_move rfl) ?_
          refine JL_q (wants_none rfl) rfl (ex_move rfl) ?_
          refine JL_q (wants_none rfl) rfl (ex_eql rfl rfl) ?_
          refine JL_nil ?_
          refine N_then ?_
          refine J_if rfl (fun h211 => ?_) (fun h211 => ?_)
          · refine J_seq ?_
            refine J_region ?_
            refine JL_q (wants_none rfl) rfl (ex_move rfl) ?_
            refine JL_q (wants_none rfl) rfl (ex_nilCheck rfl) ?_
            refine JL_q (wants_none rfl) rfl (ex_fieldAddr fi_98_2 rfl rfl) ?_
            refine JL_sk (wants_none rfl) (sk_store_bx' 3 ti_4 rfl rfl (fun w hh => cv_bool) rfl rfl rfl rfl) ?_
            refine JL_nil ?_
            refine N_then ?_
            refine J_exit ?_
            refine N_then_exit ?_
            refine N_block_exit_ne rfl ?_
            refine N_then_exit ?_
            exact N_break' g209 ⟨rfl, rfl, rfl, rfl, trivial⟩ [0, 1, 2, 3, 4] rfl rfl
          · refine J_skip ?_
            refine N_then ?_
            refine J_seq ?_
            refine J_region ?_
            refine JL_q (wants_none rfl) rfl (ex_move rfl) ?_
            refine JL_q (wants_none rfl) rfl (ex_move rfl) ?_
            refine JL_q (wants_none rfl) rfl (ex_nilCheck rfl) ?_
            refine JL_q (wants_none rfl) rfl (ex_fieldAddr fi_98_0 rfl rfl) ?_
            refine JL_q (wants_none rfl) rfl (ex_load_bx 3 ti_95 rfl rfl rfl) ?_
            refine JL_q (wants_none rfl) rfl (ex_move rfl) ?_
            refine JL_bnd fun y212 hy213 => ?_
            refine JL_ow_open (v := g209) 1 rfl hy213 ?_; rintro b214 cap215 rfl
            refine JL_q (wants_none rfl) rfl (ex_index_ow 1 Try.underlying95 ti_102 rfl rfl rfl hy213) ?_
            refine JL_q (wants_none rfl) rfl (ex_fieldAddr fi_102_0 rfl rfl) ?_
            refine JL_q (wants_none rfl) rfl (ex_fieldAddr fi_100_2 rfl rfl) ?_
            refine JL_st (wants_none rfl) rfl (st_load_ow_part 1 (opens_sl _) (Part.trans (Gfound.at_move _) (Gmove.at_word _)) rfl ti_23 rfl rfl hy213) (fun v216 => ?_)
            refine JL_bnd fun r217 hr218 => ?_
            refine JL_call (wants_none rfl) rfl Try.call64 rfl (Ca_self (fun _ => rfl) fun w hh => c_impl_movesOf _ w (fun _ hk => hk.elim) _ _ (hh.rd0 1 rfl) _ _ (hh.rd0 0 rfl) _ hr218) (fun x219 => ?_)
            obtain ⟨x219_0, x219_1⟩ := x219
            refine JL_q (wants_none rfl) rfl (ex_move rfl) ?_
            refine JL_q (wants_none rfl) rfl (ex_extract rfl rfl) ?_
            refine JL_q (wants_none rfl) rfl (ex_extract rfl rfl) ?_
            refine JL_q (wants_none rfl) rfl (ex_assign rfl) ?_
            refine JL_q (wants_none rfl) rfl (ex_assign rfl) ?_
            refine JL_nil ?_
            refine N_then ?_
            refine J_seq ?_
            refine J_cut' (S' := Bool) (G' := Unit) (fun s220 _ => [(0, v0_), (2, .int .i64 p3), (7, .pointer (some ⟨b7, 0, none⟩)), (8, .int .i64 s208.2.2.2), (9, x219_0)]) (fun s220 _ => [.rd v0_ p0, .ow 102 (.slice (some ⟨b214, 0, none⟩) s208.1.length cap215) s208.1, mpf Value.string (Value.int .i64) b6 s208.2.1, .bx b7 98 [(.slice (some ⟨b214, 0, none⟩) s208.1.length cap215), .map (some b6), .bool s220], .od 100 x219_0 r217.1 x219_1, .rd v2_ p2]) ?_ (fun s220 g221 => ?_)
            · refine J_region ?_
              refine JL_q (wants_none rfl) rfl (ex_move rfl) ?_
              refine JL_q (wants_none rfl) rfl (ex_move rfl) ?_
              refine JL_q (wants_none rfl) rfl (ex_nilCheck rfl) ?_
              refine JL_q (wants_none rfl) rfl (ex_fieldAddr fi_98_2 rfl rfl) ?_
              refine JL_q (wants_none rfl) rfl (ex_load_bx 5 ti_4 rfl rfl rfl) ?_
              refine JL_q (wants_none rfl) rfl (ex_move rfl) ?_
              refine JL_cond (fun h222 => ?_) (fun h222 => ?_)
              · refine JL_q (wants_some rfl rfl rfl h222) rfl (ex_move rfl) ?_
                refine JL_q (wants_some rfl rfl rfl h222) rfl (ex_not rfl) ?_
                refine JL_q (wants_none rfl) rfl (ex_pick_true rfl h222 rfl) ?_
                refine JL_q (wants_none rfl) rfl (ex_nilCheck rfl) ?_
                refine JL_q (wants_none rfl) rfl (ex_fieldAddr fi_98_2 rfl rfl) ?_
                refine JL_sk (wants_none rfl) (sk_store_bx' 5 ti_4 rfl rfl (fun w hh => cv_bool) rfl rfl rfl rfl) ?_
                refine JL_nil ?_
                exact N_meet' () ⟨rfl, rfl, rfl, rfl, rfl, trivial⟩ [2, 3, 4, 5, 0, 6] rfl rfl
              · refine JL_passed rfl rfl rfl h222 ?_
                refine JL_passed rfl rfl rfl h222 ?_
                refine JL_q (wants_none rfl) rfl (ex_pick_false rfl h222 rfl) ?_
                refine JL_q (wants_none rfl) rfl (ex_nilCheck rfl) ?_
                refine JL_q (wants_none rfl) rfl (ex_fieldAddr fi_98_2 rfl rfl) ?_
                refine JL_sk (wants_none rfl) (sk_store_bx' 5 ti_4 rfl rfl (fun w hh => cv_bool) rfl rfl rfl rfl) ?_
                refine JL_nil ?_
                exact N_meet' () ⟨rfl, rfl, rfl, rfl, rfl, trivial⟩ [2, 3, 4, 5, 0, 6] rfl rfl
            · refine N_then ?_
              refine J_seq ?_
              refine J_region ?_
              refine JL_q (wants_none rfl) rfl (ex_move rfl) ?_
              refine JL_q (wants_none rfl) rfl (ex_od 4 rfl (ex_len_ow 4 Try.underlying108 rfl rfl)) ?_
              refine JL_q (wants_none rfl) rfl (ex_move rfl) ?_
              refine JL_nil ?_
              refine N_then ?_
              refine J_loop' (S := (List Gfound) × List (ByteArray × Int) × Int) (G := Value) (F_impl_DerivationOf_L2 p2 s208 r217) (fun s223 g224 => [(0, v0_), (2, .int .i64 p3), (7, .pointer (some ⟨b7, 0, none⟩)), (8, .int .i64 s208.2.2.2), (62, x219_0), (63, .int .i64 (r217.1.length : Int)), (64, .int .i64 s223.2.2)]) (fun s223 g224 => [.rd v0_ p0, .ow 102 g224 s223.1, mpf Value.string (Value.int .i64) b6 s223.2.1, .bx b7 98 [g224, .map (some b6), .bool s220], .od 100 x219_0 r217.1 x219_1, .rd v2_ p2]) (s208.1, s208.2.1, 0) (.slice (some ⟨b214, 0, none⟩) s208.1.length cap215) ⟨rfl, rfl, rfl, rfl, rfl, rfl, rfl, trivial⟩ [0, 1, 2, 3, 4, 5] rfl rfl (fun s223 g224 => ?_) (fun s223 g224 => ?_)
              · unfold F_impl_DerivationOf_L2
                refine J_seq ?_
                refine J_region ?_
                refine JL_q (wants_none rfl) rfl (ex_lss rfl rfl) ?_
                refine JL_nil ?_
                refine N_then ?_
                refine J_seq ?_
                refine J_if rfl (fun h225 => ?_) (fun h225 => ?_)
                · refine J_skip ?_
                  refine N_then ?_
                  refine J_seq ?_
                  refine J_block ?_
                  refine J_seq ?_
                  refine J_region ?_
                  refine JL_bnd fun y226 hy227 => ?_
                  refine JL_od_open (v := x219_0) 4 rfl hy227 ?_; rintro b228 cap229 rfl
                  refine JL_q (wants_none rfl) rfl (ex_od 4 rfl (ex_index_ow 4 Try.underlying108 ti_100 rfl rfl rfl hy227)) ?_
                  refine JL_st (wants_none rfl) rfl (st_od 4 rfl (st_load_ow_o 4 (Gmove.opens _) ti_100 rfl rfl hy227) (fun _ => rfl)) (fun v230 => ?_)
                  refine JL_st (wants_none rfl) rfl (st_alloc zi_100 rfl) (fun b231 => ?_)
                  refine JL_sk (wants_none rfl) (sk_store_bx' 0 ti_100 rfl rfl (fun w hh => (cv_aggs ⟨cv_int, cv_int, (hh.cv 1 rfl), trivial⟩)) rfl rfl rfl rfl) ?_
                  refine JL_nil ?_
                  refine N_then ?_
                  refine J_seq ?_
                  refine J_region ?_
                  refine JL_q (wants_none rfl) rfl (ex_move rfl) ?_
                  refine JL_q (wants_none rfl) rfl (ex_load_bx_agg 0 ti_100 rfl rfl rfl rfl) ?_
                  refine JL_q (wants_none rfl) rfl (ex_move rfl) ?_
                  refine JL_q (wants_none rfl) rfl (ex_buildN [(0, .agg #[.int .i64 y226.rule, .int .i64 y226.at_, v230], [.int .i64 y226.rule, .int .i64 y226.at_, v230]), (1, .int .i64 s208.2.2.2, [.int .i64 s208.2.2.2])] si_102 rfl (.cons fi_102_0 rfl rfl rfl (.cons fi_102_1 rfl rfl rfl .nil)) (fun w hh => ⟨(cv_aggs ⟨cv_int, cv_int, (hh.cv 1 rfl), trivial⟩), cv_int, trivial⟩)) ?_
                  refine JL_inline (wants_none rfl) rfl Try.call91 rfl Try.func91 rfl Try.ntmps91 rfl rfl (fun K_ hK232 => ?_)
                  refine J_seq ?_
                  refine J_region ?_
                  refine JL_st (wants_none rfl) rfl (st_box' rfl (fun w hh => (cv_aggs ⟨cv_int, cv_int, (hh.cv 1 rfl), cv_int, trivial⟩))) (fun b233 => ?_)
                  refine JL_nil ?_
                  refine N_then ?_
                  refine J_seq ?_
                  refine J_region ?_
                  refine JL_q (wants_none rfl) rfl (ex_fieldAddr fi_102_0 rfl rfl) ?_
                  refine JL_q (wants_none rfl) rfl (ex_fieldAddr fi_100_2 rfl rfl) ?_
                  refine JL_q (wants_none rfl) rfl (ex_load_bx 0 ti_23 rfl rfl rfl) ?_
                  refine JL_bnd fun r234 hr235 => ?_
                  refine JL_call (wants_none rfl) rfl Try.call59 rfl (Ca_of0 fun w hh => c_impl_keyOf _ w (fun _ hk => hk.elim) _ _ (hh.rd0 2 rfl) _ hr235) (fun _ => ?_)
                  refine JL_q (wants_none rfl) rfl (ex_assign rfl) ?_
                  refine JL_nil ?_
                  refine N_then ?_
                  refine J_seq ?_
                  refine J_region ?_
                  refine JL_q (wants_none rfl) rfl (ex_move rfl) ?_
                  refine JL_q (wants_none rfl) rfl (ex_nilCheck rfl) ?_
                  refine JL_q (wants_none rfl) rfl (ex_fieldAddr fi_98_1 rfl rfl) ?_
                  refine JL_q (wants_none rfl) rfl (ex_load_bx 6 ti_96 rfl rfl rfl) ?_
                  refine JL_q (wants_none rfl) rfl (ex_move rfl) ?_
                  refine JL_q (wants_none rfl) rfl (ex_lookup_ok (x := r234) (z := 0) 5 key_9 Try.underlying96 zi_3 rfl rfl rfl rfl rfl) ?_
                  refine JL_q (wants_none rfl) rfl (ex_move rfl) ?_
                  refine JL_q (wants_none rfl) rfl (ex_extract rfl rfl) ?_
                  refine JL_q (wants_none rfl) rfl (ex_extract rfl rfl) ?_
                  refine JL_q (wants_none rfl) rfl (ex_assign rfl) ?_
                  refine JL_q (wants_none rfl) rfl (ex_assign rfl) ?_
                  refine JL_nil ?_
                  refine N_then ?_
                  refine J_seq ?_
                  refine J_region ?_
                  refine JL_q (wants_none rfl) rfl (ex_move rfl) ?_
                  refine JL_q (wants_none rfl) rfl (ex_not rfl) ?_
                  refine JL_nil ?_
                  refine N_then ?_
                  refine J_if rfl (fun h236 => ?_) (fun h236 => ?_)
                  · refine J_seq ?_
                    refine J_draw [5] (by kernel_rfl) ?_
                    refine JP_take (i := 0) [0, 1, 2, 3, 4, 6, 7, 8] [5] rfl (by kernel_rfl) (by kernel_rfl) (by kernel_rfl) rfl rfl (wants_none rfl) rfl (ex_move rfl) ?_
                    refine JP_take (i := 1) [0, 1, 2, 3, 4, 6, 7, 8] [5] rfl (by kernel_rfl) (by kernel_rfl) (by kernel_rfl) rfl rfl (wants_none rfl) rfl (ex_nilCheck rfl) ?_
                    refine JP_take (i := 2) [0, 1, 2, 3, 4, 6, 7, 8] [5] rfl (by kernel_rfl) (by kernel_rfl) (by kernel_rfl) rfl rfl (wants_none rfl) rfl (ex_fieldAddr fi_98_1 rfl rfl) ?_
                    refine JP_take (i := 3) [0, 1, 2, 3, 4, 6, 7, 8] [5] rfl (by kernel_rfl) (by kernel_rfl) (by kernel_rfl) rfl rfl (wants_none rfl) rfl (ex_load_bx 5 ti_96 rfl rfl rfl) ?_
                    refine JP_take (i := 4) [0, 1, 2, 3, 4, 6, 7, 8] [5] rfl (by kernel_rfl) (by kernel_rfl) (by kernel_rfl) rfl rfl (wants_none rfl) rfl (ex_move rfl) ?_
                    refine JP_take (i := 5) [0, 1, 2, 3, 4, 6, 7, 8] [5] rfl (by kernel_rfl) (by kernel_rfl) (by kernel_rfl) rfl rfl (wants_none rfl) rfl (ex_move rfl) ?_
                    refine JP_take (i := 6) [0, 1, 2, 3, 4, 6, 7, 8] [5] rfl (by kernel_rfl) (by kernel_rfl) (by kernel_rfl) rfl rfl (wants_none rfl) rfl (ex_nilCheck rfl) ?_
                    refine JP_take (i := 7) [0, 1, 2, 3, 4, 6, 7, 8] [5] rfl (by kernel_rfl) (by kernel_rfl) (by kernel_rfl) rfl rfl (wants_none rfl) rfl (ex_fieldAddr fi_98_0 rfl rfl) ?_
                    refine JP_take (i := 8) [0, 1, 2, 3, 4, 6, 7, 8] [5] rfl (by kernel_rfl) (by kernel_rfl) (by kernel_rfl) rfl rfl (wants_none rfl) rfl (ex_load_bx 5 ti_95 rfl rfl rfl) ?_
                    refine JP_take (i := 9) [0, 1, 2, 3, 4, 6, 7, 8] [5] rfl (by kernel_rfl) (by kernel_rfl) (by kernel_rfl) rfl rfl (wants_none rfl) rfl (ex_len_ow 4 Try.underlying95 rfl rfl) ?_
                    refine JP_go [0, 1, 2, 3, 4, 6, 7, 8] [5] rfl rfl rfl (fun w238 h1_239 hp237 => ?_)
                    refine JD_one (i := 10) (by kernel_rfl) ?_
                    refine JO_sk rfl (wants_none rfl) (sk_mapUpdate (x := r234) (y := (s223.1.length : Int)) 5 key_9 Try.underlying96 rfl rfl rfl rfl rfl rfl rfl rfl) (sub_mp 0 rfl) ?_
                    refine JD_done (by kernel_rfl) ?_
                    refine N_then ?_
                    refine J_draw [4, 6] (by kernel_rfl) ?_
                    refine JP_take (i := 0) [0, 1, 2, 3, 5, 7, 8] [4, 6] rfl (by kernel_rfl) (by kernel_rfl) (by kernel_rfl) rfl rfl (wants_none rfl) rfl (ex_move rfl) ?_
                    refine JP_take (i := 1) [0, 1, 2, 3, 5, 7, 8] [4, 6] rfl (by kernel_rfl) (by kernel_rfl) (by kernel_rfl) rfl rfl (wants_none rfl) rfl (ex_move rfl) ?_
                    refine JP_take (i := 2) [0, 1, 2, 3, 5, 7, 8] [4, 6] rfl (by kernel_rfl) (by kernel_rfl) (by kernel_rfl) rfl rfl (wants_none rfl) rfl (ex_nilCheck rfl) ?_
                    refine JP_take (i := 3) [0, 1, 2, 3, 5, 7, 8] [4, 6] rfl (by kernel_rfl) (by kernel_rfl) (by kernel_rfl) rfl rfl (wants_none rfl) rfl (ex_fieldAddr fi_98_0 rfl rfl) ?_
                    refine JP_take (i := 5) [0, 1, 2, 3, 5, 7, 8] [4, 6] rfl (by kernel_rfl) (by kernel_rfl) (by kernel_rfl) rfl rfl (wants_none rfl) rfl (ex_load_bx_agg 0 ti_102 rfl rfl rfl rfl) ?_
                    refine JP_go [0, 1, 2, 3, 5, 7, 8] [4, 6] rfl rfl rfl (fun w241 h1_242 hp240 => ?_)
                    refine JD_two (i := 4) (j := 6) (by kernel_rfl) ?_ ?_
                    · refine JO_q rfl (wants_none rfl) rfl (ex_load_bx 6 ti_95 rfl rfl rfl) ?_
                      refine JD_one (i := 6) (by kernel_rfl) ?_
                      refine JO_st rfl (wants_none rfl) rfl (st_buildSlice (vs := [.agg #[.int .i64 y226.rule, .int .i64 y226.at_, v230, .int .i64 s208.2.2.2]]) ([(⟨y226.rule, y226.at_, y226.word, s208.2.2.2⟩ : Gfound)] : List Gfound) Try.underlying95 ti_102 zi_102 rfl rfl rfl (fun w hh => ⟨(Gfound.rdmk (Rd.mk_int _ _ _) (Rd.mk_int _ _ _) (hh.rd 2 rfl) (Rd.mk_int _ _ _)), trivial⟩)) (fun _ hk => nomatch hk) (fun b243 => ?_)
                      refine JD_bnd fun z244 hz245 => ?_
                      refine JD_one (i := 7) (by kernel_rfl) ?_
                      refine JO_st rfl (wants_none rfl) rfl (st_append 5 Try.underlying95 ti_102 zi_102 rfl bi_102 rfl rfl rfl rfl (fun w hh => hh.src_ow 0 rfl) hz245) (sub_ow 0 rfl) (fun v246 => ?_)
                      refine JD_take (i := 8) hp240 rfl (by kernel_rfl) (by kernel_rfl) (by kernel_rfl) (wants_none rfl) rfl (ex_nilCheck rfl) ?_
                      refine JD_take (i := 9) hp240 rfl (by kernel_rfl) (by kernel_rfl) (by kernel_rfl) (wants_none rfl) rfl (ex_fieldAddr fi_98_0 rfl rfl) ?_
                      refine JD_one (i := 10) (by kernel_rfl) ?_
                      refine JO_sk rfl (wants_none rfl) (sk_store_bx' 7 ti_95 rfl rfl (fun w hh => (hh.cv_ow 5 rfl)) rfl rfl rfl rfl) (sub_bx 1 rfl) ?_
                      refine JD_done (by kernel_rfl) ?_
                      refine N_inl0 (.inr rfl) hK232 rfl ?_
                      refine JL_nil ?_
                      refine N_then ?_
                      refine J_seq ?_
                      refine J_region ?_
                      refine JL_q (wants_none rfl) rfl (ex_move rfl) ?_
                      refine JL_q (wants_none rfl) rfl (ex_nilCheck rfl) ?_
                      refine JL_q (wants_none rfl) rfl (ex_fieldAddr fi_98_0 rfl rfl) ?_
                      refine JL_q (wants_none rfl) rfl (ex_load_bx 7 ti_95 rfl rfl rfl) ?_
                      refine JL_q (wants_none rfl) rfl (ex_len_ow 5 Try.underlying95 rfl rfl) ?_
                      refine JL_q (wants_none rfl) rfl (ex_eql rfl rfl) ?_
                      refine JL_nil ?_
                      refine N_then ?_
                      refine J_if rfl (fun h247 => ?_) (fun h247 => ?_)
                      · refine J_seq ?_
                        refine J_region ?_
                        refine JL_q (wants_none rfl) rfl (ex_move rfl) ?_
                        refine JL_q (wants_none rfl) rfl (ex_nilCheck rfl) ?_
                        refine JL_q (wants_none rfl) rfl (ex_fieldAddr fi_98_2 rfl rfl) ?_
                        refine JL_sk (wants_none rfl) (sk_store_bx' 7 ti_4 rfl rfl (fun w hh => cv_bool) rfl rfl rfl rfl) ?_
                        refine JL_nil ?_
                        refine N_then ?_
                        refine J_seq ?_
                        refine J_region ?_
                        refine JL_q (wants_none rfl) rfl (ex_move rfl) ?_
                        refine JL_q (wants_none rfl) rfl (ex_assign rfl) ?_
                        refine JL_nil ?_
                        refine N_then ?_
                        refine J_ret ?_
                        refine N_block_ret ?_
                        refine N_then_ret ?_
                        refine N_round_ret ?_
                        refine N_block_ret ?_
                        refine N_then_ret ?_
                        refine N_round_reti ?_
                        refine N_then_ret ?_
                        refine N_inl1 hK5 rfl (rv_tmp rfl) ?_
                        refine JL_q (wants_none rfl) rfl (ex_assign rfl) ?_
                        refine JL_nil ?_
                        refine N_then ?_
                        refine J_seq ?_
                        refine J_draw [] (by kernel_rfl) ?_
                        refine JP_take (i := 0) [0, 1, 2, 3, 4, 5, 6, 7, 8, 9] [] rfl (by kernel_rfl) (by kernel_rfl) (by kernel_rfl) rfl rfl (wants_none rfl) rfl (ex_move rfl) ?_
                        refine JP_take (i := 1) [0, 1, 2, 3, 4, 5, 6, 7, 8, 9] [] rfl (by kernel_rfl) (by kernel_rfl) (by kernel_rfl) rfl rfl (wants_none rfl) rfl (ex_nilCheck rfl) ?_
                        refine JP_take (i := 2) [0, 1, 2, 3, 4, 5, 6, 7, 8, 9] [] rfl (by kernel_rfl) (by kernel_rfl) (by kernel_rfl) rfl rfl (wants_none rfl) rfl (ex_fieldAddr fi_98_1 rfl rfl) ?_
                        refine JP_take (i := 3) [0, 1, 2, 3, 4, 5, 6, 7, 8, 9] [] rfl (by kernel_rfl) (by kernel_rfl) (by kernel_rfl) rfl rfl (wants_none rfl) rfl (ex_load_bx 7 ti_96 rfl rfl rfl) ?_
                        refine JP_take (i := 4) [0, 1, 2, 3, 4, 5, 6, 7, 8, 9] [] rfl (by kernel_rfl) (by kernel_rfl) (by kernel_rfl) rfl rfl (wants_none rfl) rfl (ex_move rfl) ?_
                        refine JP_go [0, 1, 2, 3, 4, 5, 6, 7, 8, 9] [] rfl rfl rfl (fun w249 h1_250 hp248 => ?_)
                        refine JD_bnd fun r251 hr252 => ?_
                        refine JD_one (i := 5) (by kernel_rfl) ?_
                        refine JO_call rfl (wants_none rfl) rfl Try.call59 rfl (Ca_of0 fun w hh => c_impl_keyOf _ w (fun _ hk => hk.elim) _ _ (hh.rd0 9 rfl) _ hr252) (fun _ => ?_)
                        refine JD_take (i := 6) hp248 rfl (by kernel_rfl) (by kernel_rfl) (by kernel_rfl) (wants_none rfl) rfl (ex_lookup_ok (x := r251) (z := 0) 6 key_9 Try.underlying96 zi_3 rfl rfl rfl rfl rfl) ?_
                        refine JD_take (i := 7) hp248 rfl (by kernel_rfl) (by kernel_rfl) (by kernel_rfl) (wants_none rfl) rfl (ex_move rfl) ?_
                        refine JD_take (i := 8) hp248 rfl (by kernel_rfl) (by kernel_rfl) (by kernel_rfl) (wants_none rfl) rfl (ex_extract rfl rfl) ?_
                        refine JD_take (i := 9) hp248 rfl (by kernel_rfl) (by kernel_rfl) (by kernel_rfl) (wants_none rfl) rfl (ex_extract rfl rfl) ?_
                        refine JD_take (i := 10) hp248 rfl (by kernel_rfl) (by kernel_rfl) (by kernel_rfl) (wants_none rfl) rfl (ex_assign rfl) ?_
                        refine JD_take (i := 11) hp248 rfl (by kernel_rfl) (by kernel_rfl) (by kernel_rfl) (wants_none rfl) rfl (ex_assign rfl) ?_
                        refine JD_done (by kernel_rfl) ?_
                        refine N_then ?_
                        refine J_seq ?_
                        refine J_cut' (S' := Unit) (G' := Unit) (fun _ _ => [(11, .pointer (some ⟨b7, 0, none⟩)), (12, .int .i64 ((mget (mput s223.2.1 r234 (s223.1.length : Int)) r251).getD 0))]) (fun _ _ => [.ow 102 v246 z244, mpf Value.string (Value.int .i64) b6 (mput s223.2.1 r234 (s223.1.length : Int)), .bx b7 98 [v246, .map (some b6), .bool false]]) ?_ (fun s253 g254 => ?_)
                        · refine J_block ?_
                          refine J_seq ?_
                          refine J_region ?_
                          refine JL_q (wants_none rfl) rfl (ex_move rfl) ?_
                          refine JL_q (wants_none rfl) rfl (ex_not rfl) ?_
                          refine JL_q (wants_none rfl) rfl (ex_move rfl) ?_
                          refine JL_cond (fun h255 => ?_) (fun h255 => ?_)
                          · refine JL_q (wants_some rfl rfl rfl h255) rfl (ex_move rfl) ?_
                            refine JL_q (wants_some rfl rfl rfl h255) rfl (ex_nilCheck rfl) ?_
                            refine JL_q (wants_some rfl rfl rfl h255) rfl (ex_fieldAddr fi_98_2 rfl rfl) ?_
                            refine JL_q (wants_some rfl rfl rfl h255) rfl (ex_load_bx 7 ti_4 rfl rfl rfl) ?_
                            refine JL_q (wants_none rfl) rfl (ex_pick_true rfl h255 rfl) ?_
                            refine JL_q (wants_none rfl) rfl (ex_assign rfl) ?_
                            refine JL_nil ?_
                            refine N_then ?_
                            refine J_if_false rfl rfl ?_
                            refine J_seq ?_
                            refine J_region ?_
                            refine JL_q (wants_none rfl) rfl (ex_move rfl) ?_
                            refine JL_q (wants_none rfl) rfl (ex_not rfl) ?_
                            refine JL_q (wants_none rfl) rfl (ex_assign rfl) ?_
                            refine JL_nil ?_
                            refine N_then ?_
                            refine J_if_true rfl h255 ?_
                            refine J_seq ?_
                            refine J_region ?_
                            refine JL_q (wants_none rfl) rfl (ex_assign rfl) ?_
                            refine JL_q (wants_none rfl) rfl (ex_assign rfl) ?_
                            refine JL_nil ?_
                            refine N_then ?_
                            refine J_ret ?_
                            refine N_block_ret ?_
                            refine N_mid_ret ?_
                            refine N_then_ret ?_
                            refine N_ctx (fun w hh => SH.od_nil (α := (List Int)) 23 hh) ?_
                            exact N_ret2 rfl (rv_tmp rfl) (rv_tmp rfl) (fun w hh => ⟨((.slice none 0 0 : Value), ([] : List Nat)), rfl, hh.sel [0] rfl⟩)
                          · refine JL_passed rfl rfl rfl h255 ?_
                            refine JL_passed rfl rfl rfl h255 ?_
                            refine JL_passed rfl rfl rfl h255 ?_
                            refine JL_passed rfl rfl rfl h255 ?_
                            refine JL_q (wants_none rfl) rfl (ex_pick_false rfl h255 rfl) ?_
                            refine JL_q (wants_none rfl) rfl (ex_assign rfl) ?_
                            refine JL_nil ?_
                            refine N_then ?_
                            refine J_if_false rfl rfl ?_
                            refine J_seq ?_
                            refine J_region ?_
                            refine JL_q (wants_none rfl) rfl (ex_move rfl) ?_
                            refine JL_q (wants_none rfl) rfl (ex_not rfl) ?_
                            refine JL_q (wants_none rfl) rfl (ex_assign rfl) ?_
                            refine JL_nil ?_
                            refine N_then ?_
                            refine J_if_false rfl h255 ?_
                            refine J_skip ?_
                            refine N_block ?_
                            exact N_meet' () ⟨rfl, rfl, trivial⟩ [5, 6, 7] rfl rfl
                        · refine N_then ?_
                          refine J_seq ?_
                          refine J_region ?_
                          refine JL_st (wants_none rfl) rfl (st_buildSlice_od (vs := []) (B := ([] : List Nat)) ([] : List (List Int)) [] Try.underlying33 ti_23 zi_23 rfl rfl rfl rfl rfl (fun w hh => dwv_nil)) (fun b256 => ?_)
                          refine JL_q (wants_none rfl) rfl (ex_assign rfl) ?_
                          refine JL_nil ?_
                          refine N_then ?_
                          refine J_seq ?_
                          refine J_loop' (S := Int × (List (List Int))) (G := Value × List Nat) (F_impl_DerivationOf_L3 z244) (fun s257 g258 => [(11, .pointer (some ⟨b7, 0, none⟩)), (12, .int .i64 s257.1), (14, g258.1)]) (fun s257 g258 => [.ow 102 v246 z244, mpf Value.string (Value.int .i64) b6 (mput s223.2.1 r234 (s223.1.length : Int)), .bx b7 98 [v246, .map (some b6), .bool false], .od 23 g258.1 s257.2 g258.2]) (((mget (mput s223.2.1 r234 (s223.1.length : Int)) r251).getD 0), ([] : List (List Int))) ((.slice (some ⟨b256, 0, none⟩) 0 0), ([] : List Nat)) ⟨rfl, rfl, rfl, trivial⟩ [1, 2, 3, 0] rfl rfl (fun s257 g258 => ?_) (fun s257 g258 => ?_)
                          · obtain ⟨g258_0, g258_1⟩ := g258
                            unfold F_impl_DerivationOf_L3
                            refine J_seq ?_
                            refine J_seq ?_
                            refine J_region ?_
                            refine JL_q (wants_none rfl) rfl (ex_move rfl) ?_
                            refine JL_q (wants_none rfl) rfl (ex_nilCheck rfl) ?_
                            refine JL_q (wants_none rfl) rfl (ex_fieldAddr fi_98_0 rfl rfl) ?_
                            refine JL_q (wants_none rfl) rfl (ex_load_bx 2 ti_95 rfl rfl rfl) ?_
                            refine JL_q (wants_none rfl) rfl (ex_move rfl) ?_
                            refine JL_bnd fun y259 hy260 => ?_
                            refine JL_ow_open (v := v246) 0 rfl hy260 ?_; rintro b261 cap262 rfl
                            refine JL_q (wants_none rfl) rfl (ex_index_ow 0 Try.underlying95 ti_102 rfl rfl rfl hy260) ?_
                            refine JL_q (wants_none rfl) rfl (ex_fieldAddr fi_102_1 rfl rfl) ?_
                            refine JL_q (wants_none rfl) rfl (ex_load_ow_part_int 0 (Gfound.at_parent _) rfl ti_3 rfl rfl hy260) ?_
                            refine JL_q (wants_none rfl) rfl (ex_geq rfl rfl) ?_
                            refine JL_nil ?_
                            refine N_then ?_
                            refine J_if rfl (fun h263 => ?_) (fun h263 => ?_)
                            · refine J_skip ?_
                              refine N_then ?_
                              refine J_seq ?_
                              refine J_block ?_
                              refine J_draw [3] (by kernel_rfl) ?_
                              refine JP_take (i := 0) [0, 1, 2] [3] rfl (by kernel_rfl) (by kernel_rfl) (by kernel_rfl) rfl rfl (wants_none rfl) rfl (ex_move rfl) ?_
                              refine JP_take (i := 1) [0, 1, 2] [3] rfl (by kernel_rfl) (by kernel_rfl) (by kernel_rfl) rfl rfl (wants_none rfl) rfl (ex_move rfl) ?_
                              refine JP_take (i := 2) [0, 1, 2] [3] rfl (by kernel_rfl) (by kernel_rfl) (by kernel_rfl) rfl rfl (wants_none rfl) rfl (ex_nilCheck rfl) ?_
                              refine JP_take (i := 3) [0, 1, 2] [3] rfl (by kernel_rfl) (by kernel_rfl) (by kernel_rfl) rfl rfl (wants_none rfl) rfl (ex_fieldAddr fi_98_0 rfl rfl) ?_
                              refine JP_take (i := 4) [0, 1, 2] [3] rfl (by kernel_rfl) (by kernel_rfl) (by kernel_rfl) rfl rfl (wants_none rfl) rfl (ex_load_bx 2 ti_95 rfl rfl rfl) ?_
                              refine JP_take (i := 5) [0, 1, 2] [3] rfl (by kernel_rfl) (by kernel_rfl) (by kernel_rfl) rfl rfl (wants_none rfl) rfl (ex_move rfl) ?_
                              refine JP_bnd fun y264 hy265 => ?_
                              refine JP_take (i := 6) [0, 1, 2] [3] rfl (by kernel_rfl) (by kernel_rfl) (by kernel_rfl) rfl rfl (wants_none rfl) rfl (ex_index_ow 0 Try.underlying95 ti_102 rfl rfl rfl hy265) ?_
                              refine JP_take (i := 7) [0, 1, 2] [3] rfl (by kernel_rfl) (by kernel_rfl) (by kernel_rfl) rfl rfl (wants_none rfl) rfl (ex_fieldAddr fi_102_0 rfl rfl) ?_
                              refine JP_take (i := 8) [0, 1, 2] [3] rfl (by kernel_rfl) (by kernel_rfl) (by kernel_rfl) rfl rfl (wants_none rfl) rfl (ex_fieldAddr fi_100_0 rfl rfl) ?_
                              refine JP_take (i := 9) [0, 1, 2] [3] rfl (by kernel_rfl) (by kernel_rfl) (by kernel_rfl) rfl rfl (wants_none rfl) rfl (ex_load_ow_part_int 0 (Part.trans (Gfound.at_move _) (Gmove.at_rule _)) rfl ti_2 rfl rfl hy265) ?_
                              refine JP_take (i := 10) [0, 1, 2] [3] rfl (by kernel_rfl) (by kernel_rfl) (by kernel_rfl) rfl rfl (wants_none rfl) rfl (ex_move rfl) ?_
                              refine JP_take (i := 11) [0, 1, 2] [3] rfl (by kernel_rfl) (by kernel_rfl) (by kernel_rfl) rfl rfl (wants_none rfl) rfl (ex_nilCheck rfl) ?_
                              refine JP_take (i := 12) [0, 1, 2] [3] rfl (by kernel_rfl) (by kernel_rfl) (by kernel_rfl) rfl rfl (wants_none rfl) rfl (ex_fieldAddr fi_98_0 rfl rfl) ?_
                              refine JP_take (i := 13) [0, 1, 2] [3] rfl (by kernel_rfl) (by kernel_rfl) (by kernel_rfl) rfl rfl (wants_none rfl) rfl (ex_load_bx 2 ti_95 rfl rfl rfl) ?_
                              refine JP_take (i := 14) [0, 1, 2] [3] rfl (by kernel_rfl) (by kernel_rfl) (by kernel_rfl) rfl rfl (wants_none rfl) rfl (ex_move rfl) ?_
                              refine JP_bnd fun y266 hy267 => ?_
                              refine JP_take (i := 15) [0, 1, 2] [3] rfl (by kernel_rfl) (by kernel_rfl) (by kernel_rfl) rfl rfl (wants_none rfl) rfl (ex_index_ow 0 Try.underlying95 ti_102 rfl rfl rfl hy267) ?_
                              refine JP_take (i := 16) [0, 1, 2] [3] rfl (by kernel_rfl) (by kernel_rfl) (by kernel_rfl) rfl rfl (wants_none rfl) rfl (ex_fieldAddr fi_102_0 rfl rfl) ?_
                              refine JP_take (i := 17) [0, 1, 2] [3] rfl (by kernel_rfl) (by kernel_rfl) (by kernel_rfl) rfl rfl (wants_none rfl) rfl (ex_fieldAddr fi_100_1 rfl rfl) ?_
                              refine JP_take (i := 18) [0, 1, 2] [3] rfl (by kernel_rfl) (by kernel_rfl) (by kernel_rfl) rfl rfl (wants_none rfl) rfl (ex_load_ow_part_int 0 (Part.trans (Gfound.at_move _) (Gmove.at_at_ _)) rfl ti_2 rfl rfl hy267) ?_
                              refine JP_go [0, 1, 2] [3] rfl rfl rfl (fun w269 h1_270 hp268 => ?_)
                              refine JD_one (i := 19) (by kernel_rfl) ?_
                              refine JO_st rfl (wants_none rfl) rfl (st_buildSlice (vs := [.int .i64 ((⟨y264.move_rule, y264.move_at_, y264.move_word⟩ : Gmove).rule), .int .i64 ((⟨y266.move_rule, y266.move_at_, y266.move_word⟩ : Gmove).at_)]) ([(⟨y264.move_rule, y264.move_at_, y264.move_word⟩ : Gmove).rule, (⟨y266.move_rule, y266.move_at_, y266.move_word⟩ : Gmove).at_] : List Int) Try.underlying23 ti_2 zi_2 rfl rfl rfl (fun w hh => ⟨(Rd.mk_int _ _ _), (Rd.mk_int _ _ _), trivial⟩)) (fun _ hk => nomatch hk) (fun b271 => ?_)
                              refine JD_one (i := 20) (by kernel_rfl) ?_
                              refine JO_ctx (fun w hh => hh.tokf 0 rfl rfl) (tokf_owns (i := 0) rfl) ?_
                              refine JO_st rfl (wants_none rfl) rfl (st_buildSlice_od (vs := [(.slice (some ⟨b271, 0, none⟩) 2 2)]) (B := ((((.slice (some ⟨b271, 0, none⟩) 2 2) : Value).ownBlock.toList ++ []) ++ [])) ([([(⟨y264.move_rule, y264.move_at_, y264.move_word⟩ : Gmove).rule, (⟨y266.move_rule, y266.move_at_, y266.move_word⟩ : Gmove).at_] : List Int)] : List (List Int)) [0] Try.underlying33 ti_23 zi_23 rfl rfl rfl rfl rfl (fun w hh => (dwv_cons (hh.dw 0 rfl) dwv_nil))) (fun _ hk => nomatch hk) (fun b272 => ?_)
                              refine JD_bnd fun z273 hz274 => ?_
                              refine JD_one (i := 21) (by kernel_rfl) ?_
                              refine JO_st rfl (wants_none rfl) rfl (st_append_od 6 0 Try.underlying33 ti_23 zi_23 rfl bi_23 rfl rfl rfl rfl rfl rfl hz274) (sub_od 0 rfl) (fun v275 => ?_)
                              refine JD_take (i := 22) hp268 rfl (by kernel_rfl) (by kernel_rfl) (by kernel_rfl) (wants_none rfl) rfl (ex_assign rfl) ?_
                              refine JD_done (by kernel_rfl) ?_
                              refine N_block ?_
                              refine N_then ?_
                              refine J_region ?_
                              refine JL_q (wants_none rfl) rfl (ex_move rfl) ?_
                              refine JL_q (wants_none rfl) rfl (ex_nilCheck rfl) ?_
                              refine JL_q (wants_none rfl) rfl (ex_fieldAddr fi_98_0 rfl rfl) ?_
                              refine JL_q (wants_none rfl) rfl (ex_load_bx 5 ti_95 rfl rfl rfl) ?_
                              refine JL_q (wants_none rfl) rfl (ex_move rfl) ?_
                              refine JL_bnd fun y276 hy277 => ?_
                              refine JL_q (wants_none rfl) rfl (ex_index_ow 3 Try.underlying95 ti_102 rfl rfl rfl hy277) ?_
                              refine JL_q (wants_none rfl) rfl (ex_fieldAddr fi_102_1 rfl rfl) ?_
                              refine JL_q (wants_none rfl) rfl (ex_load_ow_part_int 3 (Gfound.at_parent _) rfl ti_3 rfl rfl hy277) ?_
                              refine JL_q (wants_none rfl) rfl (ex_assign rfl) ?_
                              refine JL_nil ?_
                              exact N_next' (v275, (g258_1 ++ ((((.slice (some ⟨b271, 0, none⟩) 2 2) : Value).ownBlock.toList ++ []) ++ []))) ⟨rfl, rfl, rfl, trivial⟩ [3, 4, 5, 6] rfl rfl
                            · refine J_exit ?_
                              refine N_then_exit ?_
                              exact N_break' (g258_0, g258_1) ⟨rfl, rfl, rfl, trivial⟩ [0, 1, 2, 3] rfl rfl
                          · obtain ⟨g258_0, g258_1⟩ := g258
                            refine N_then ?_
                            refine J_seq ?_
                            refine J_seq ?_
                            refine J_region ?_
                            refine JL_q (wants_none rfl) rfl (ex_move rfl) ?_
                            refine JL_q (wants_none rfl) rfl (ex_od 3 rfl (ex_len_ow 3 Try.underlying33 rfl rfl)) ?_
                            refine JL_q (wants_none rfl) rfl (ex_gtr rfl rfl) ?_
                            refine JL_nil ?_
                            refine N_then ?_
                            refine J_if rfl (fun h278 => ?_) (fun h278 => ?_)
                            · refine J_seq ?_
                              refine J_region ?_
                              refine JL_q (wants_none rfl) rfl (ex_assign rfl) ?_
                              refine JL_q (wants_none rfl) rfl (ex_assign rfl) ?_
                              refine JL_nil ?_
                              refine N_then ?_
                              refine J_ret ?_
                              refine N_then_ret ?_
                              refine N_ctx (fun w hh => SH.od_nil (α := (List Int)) 23 hh) ?_
                              exact N_ret2 rfl (rv_tmp rfl) (rv_tmp rfl) (fun w hh => ⟨((.slice none 0 0 : Value), ([] : List Nat)), rfl, hh.sel [0] rfl⟩)
                            · refine J_skip ?_
                              refine N_then ?_
                              refine J_seq ?_
                              refine J_region ?_
                              refine JL_q (wants_none rfl) rfl (ex_move rfl) ?_
                              refine JL_bnd fun z279 hz280 => ?_
                              refine JL_rev_od 3 rc_slices_Reverse_SSint64_Sint64 rfl (wants_none rfl) rfl Try.call60 rfl rfl hz280 ?_
                              refine JL_nil ?_
                              refine N_then ?_
                              refine J_seq ?_
                              refine J_region ?_
                              refine JL_q (wants_none rfl) rfl (ex_move rfl) ?_
                              refine JL_q (wants_none rfl) rfl (ex_assign rfl) ?_
                              refine JL_q (wants_none rfl) rfl (ex_assign rfl) ?_
                              refine JL_nil ?_
                              refine N_then ?_
                              refine J_ret ?_
                              exact N_ret2 rfl (rv_tmp rfl) (rv_tmp rfl) (fun w hh => ⟨(g258_0, g258_1), rfl, hh.sel [3] rfl⟩)
                      · refine J_skip ?_
                        refine N_block ?_
                        refine N_then ?_
                        refine J_region ?_
                        refine JL_q (wants_none rfl) rfl (ex_add rfl rfl) ?_
                        refine JL_q (wants_none rfl) rfl (ex_move rfl) ?_
                        refine JL_nil ?_
                        exact N_next' v246 ⟨rfl, rfl, rfl, rfl, rfl, rfl, rfl, trivial⟩ [4, 5, 6, 7, 8, 9] rfl rfl
                    · refine JO_st rfl (wants_none rfl) rfl (st_buildSlice (vs := [.agg #[.int .i64 y226.rule, .int .i64 y226.at_, v230, .int .i64 s208.2.2.2]]) ([(⟨y226.rule, y226.at_, y226.word, s208.2.2.2⟩ : Gfound)] : List Gfound) Try.underlying95 ti_102 zi_102 rfl rfl rfl (fun w hh => ⟨(Gfound.rdmk (Rd.mk_int _ _ _) (Rd.mk_int _ _ _) (hh.rd 2 rfl) (Rd.mk_int _ _ _)), trivial⟩)) (fun _ hk => nomatch hk) (fun b281 => ?_)
                      refine JD_one (i := 4) (by kernel_rfl) ?_
                      refine JO_q rfl (wants_none rfl) rfl (ex_load_bx 7 ti_95 rfl rfl rfl) ?_
                      refine JD_bnd fun z282 hz283 => ?_
                      refine JD_one (i := 7) (by kernel_rfl) ?_
                      refine JO_st rfl (wants_none rfl) rfl (st_append 5 Try.underlying95 ti_102 zi_102 rfl bi_102 rfl rfl rfl rfl (fun w hh => hh.src_ow 0 rfl) hz283) (sub_ow 0 rfl) (fun v284 => ?_)
                      refine JD_take (i := 8) hp240 rfl (by kernel_rfl) (by kernel_rfl) (by kernel_rfl) (wants_none rfl) rfl (ex_nilCheck rfl) ?_
                      refine JD_take (i := 9) hp240 rfl (by kernel_rfl) (by kernel_rfl) (by kernel_rfl) (wants_none rfl) rfl (ex_fieldAddr fi_98_0 rfl rfl) ?_
                      refine JD_one (i := 10) (by kernel_rfl) ?_
                      refine JO_sk rfl (wants_none rfl) (sk_store_bx' 7 ti_95 rfl rfl (fun w hh => (hh.cv_ow 5 rfl)) rfl rfl rfl rfl) (sub_bx 1 rfl) ?_
                      refine JD_done (by kernel_rfl) ?_
                      refine N_inl0 (.inr rfl) hK232 rfl ?_
                      refine JL_nil ?_
                      refine N_then ?_
                      refine J_seq ?_
                      refine J_region ?_
                      refine JL_q (wants_none rfl) rfl (ex_move rfl) ?_
                      refine JL_q (wants_none rfl) rfl (ex_nilCheck rfl) ?_
                      refine JL_q (wants_none rfl) rfl (ex_fieldAddr fi_98_0 rfl rfl) ?_
                      refine JL_q (wants_none rfl) rfl (ex_load_bx 7 ti_95 rfl rfl rfl) ?_
                      refine JL_q (wants_none rfl) rfl (ex_len_ow 5 Try.underlying95 rfl rfl) ?_
                      refine JL_q (wants_none rfl) rfl (ex_eql rfl rfl) ?_
                      refine JL_nil ?_
                      refine N_then ?_
                      refine J_if rfl (fun h285 => ?_) (fun h285 => ?_)
                      · refine J_seq ?_
                        refine J_region ?_
                        refine JL_q (wants_none rfl) rfl (ex_move rfl) ?_
                        refine JL_q (wants_none rfl) rfl (ex_nilCheck rfl) ?_
                        refine JL_q (wants_none rfl) rfl (ex_fieldAddr fi_98_2 rfl rfl) ?_
                        refine JL_sk (wants_none rfl) (sk_store_bx' 7 ti_4 rfl rfl (fun w hh => cv_bool) rfl rfl rfl rfl) ?_
                        refine JL_nil ?_
                        refine N_then ?_
                        refine J_seq ?_
                        refine J_region ?_
                        refine JL_q (wants_none rfl) rfl (ex_move rfl) ?_
                        refine JL_q (wants_none rfl) rfl (ex_assign rfl) ?_
                        refine JL_nil ?_
                        refine N_then ?_
                        refine J_ret ?_
                        refine N_block_ret ?_
                        refine N_then_ret ?_
                        refine N_round_ret ?_
                        refine N_block_ret ?_
                        refine N_then_ret ?_
                        refine N_round_reti ?_
                        refine N_then_ret ?_
                        refine N_inl1 hK5 rfl (rv_tmp rfl) ?_
                        refine JL_q (wants_none rfl) rfl (ex_assign rfl) ?_
                        refine JL_nil ?_
                        refine N_then ?_
                        refine J_seq ?_
                        refine J_draw [] (by kernel_rfl) ?_
                        refine JP_take (i := 0) [0, 1, 2, 3, 4, 5, 6, 7, 8, 9] [] rfl (by kernel_rfl) (by kernel_rfl) (by kernel_rfl) rfl rfl (wants_none rfl) rfl (ex_move rfl) ?_
                        refine JP_take (i := 1) [0, 1, 2, 3, 4, 5, 6, 7, 8, 9] [] rfl (by kernel_rfl) (by kernel_rfl) (by kernel_rfl) rfl rfl (wants_none rfl) rfl (ex_nilCheck rfl) ?_
                        refine JP_take (i := 2) [0, 1, 2, 3, 4, 5, 6, 7, 8, 9] [] rfl (by kernel_rfl) (by kernel_rfl) (by kernel_rfl) rfl rfl (wants_none rfl) rfl (ex_fieldAddr fi_98_1 rfl rfl) ?_
                        refine JP_take (i := 3) [0, 1, 2, 3, 4, 5, 6, 7, 8, 9] [] rfl (by kernel_rfl) (by kernel_rfl) (by kernel_rfl) rfl rfl (wants_none rfl) rfl (ex_load_bx 7 ti_96 rfl rfl rfl) ?_
                        refine JP_take (i := 4) [0, 1, 2, 3, 4, 5, 6, 7, 8, 9] [] rfl (by kernel_rfl) (by kernel_rfl) (by kernel_rfl) rfl rfl (wants_none rfl) rfl (ex_move rfl) ?_
                        refine JP_go [0, 1, 2, 3, 4, 5, 6, 7, 8, 9] [] rfl rfl rfl (fun w287 h1_288 hp286 => ?_)
                        refine JD_bnd fun r289 hr290 => ?_
                        refine JD_one (i := 5) (by kernel_rfl) ?_
                        refine JO_call rfl (wants_none rfl) rfl Try.call59 rfl (Ca_of0 fun w hh => c_impl_keyOf _ w (fun _ hk => hk.elim) _ _ (hh.rd0 9 rfl) _ hr290) (fun _ => ?_)
                        refine JD_take (i := 6) hp286 rfl (by kernel_rfl) (by kernel_rfl) (by kernel_rfl) (wants_none rfl) rfl (ex_lookup_ok (x := r289) (z := 0) 6 key_9 Try.underlying96 zi_3 rfl rfl rfl rfl rfl) ?_
                        refine JD_take (i := 7) hp286 rfl (by kernel_rfl) (by kernel_rfl) (by kernel_rfl) (wants_none rfl) rfl (ex_move rfl) ?_
                        refine JD_take (i := 8) hp286 rfl (by kernel_rfl) (by kernel_rfl) (by kernel_rfl) (wants_none rfl) rfl (ex_extract rfl rfl) ?_
                        refine JD_take (i := 9) hp286 rfl (by kernel_rfl) (by kernel_rfl) (by kernel_rfl) (wants_none rfl) rfl (ex_extract rfl rfl) ?_
                        refine JD_take (i := 10) hp286 rfl (by kernel_rfl) (by kernel_rfl) (by kernel_rfl) (wants_none rfl) rfl (ex_assign rfl) ?_
                        refine JD_take (i := 11) hp286 rfl (by kernel_rfl) (by kernel_rfl) (by kernel_rfl) (wants_none rfl) rfl (ex_assign rfl) ?_
                        refine JD_done (by kernel_rfl) ?_
                        refine N_then ?_
                        refine J_seq ?_
                        refine J_cut' (S' := Unit) (G' := Unit) (fun _ _ => [(11, .pointer (some ⟨b7, 0, none⟩)), (12, .int .i64 ((mget (mput s223.2.1 r234 (s223.1.length : Int)) r289).getD 0))]) (fun _ _ => [.ow 102 v284 z282, mpf Value.string (Value.int .i64) b6 (mput s223.2.1 r234 (s223.1.length : Int)), .bx b7 98 [v284, .map (some b6), .bool false]]) ?_ (fun s291 g292 => ?_)
                        · refine J_block ?_
                          refine J_seq ?_
                          refine J_region ?_
                          refine JL_q (wants_none rfl) rfl (ex_move rfl) ?_
                          refine JL_q (wants_none rfl) rfl (ex_not rfl) ?_
                          refine JL_q (wants_none rfl) rfl (ex_move rfl) ?_
                          refine JL_cond (fun h293 => ?_) (fun h293 => ?_)
                          · refine JL_q (wants_some rfl rfl rfl h293) rfl (ex_move rfl) ?_
                            refine JL_q (wants_some rfl rfl rfl h293) rfl (ex_nilCheck rfl) ?_
                            refine JL_q (wants_some rfl rfl rfl h293) rfl (ex_fieldAddr fi_98_2 rfl rfl) ?_
                            refine JL_q (wants_some rfl rfl rfl h293) rfl (ex_load_bx 7 ti_4 rfl rfl rfl) ?_
                            refine JL_q (wants_none rfl) rfl (ex_pick_true rfl h293 rfl) ?_
                            refine JL_q (wants_none rfl) rfl (ex_assign rfl) ?_
                            refine JL_nil ?_
                            refine N_then ?_
                            refine J_if_false rfl rfl ?_
                            refine J_seq ?_
                            refine J_region ?_
                            refine JL_q (wants_none rfl) rfl (ex_move rfl) ?_
                            refine JL_q (wants_none rfl) rfl (ex_not rfl) ?_
                            refine JL_q (wants_none rfl) rfl (ex_assign rfl) ?_
                            refine JL_nil ?_
                            refine N_then ?_
                            refine J_if_true rfl h293 ?_
                            refine J_seq ?_
                            refine J_region ?_
                            refine JL_q (wants_none rfl) rfl (ex_assign rfl) ?_
                            refine JL_q (wants_none rfl) rfl (ex_assign rfl) ?_
                            refine JL_nil ?_
                            refine N_then ?_
                            refine J_ret ?_
                            refine N_block_ret ?_
                            refine N_mid_ret ?_
                            refine N_then_ret ?_
                            refine N_ctx (fun w hh => SH.od_nil (α := (List Int)) 23 hh) ?_
                            exact N_ret2 rfl (rv_tmp rfl) (rv_tmp rfl) (fun w hh => ⟨((.slice none 0 0 : Value), ([] : List Nat)), rfl, hh.sel [0] rfl⟩)
                          · refine JL_passed rfl rfl rfl h293 ?_
                            refine JL_passed rfl rfl rfl h293 ?_
                            refine JL_passed rfl rfl rfl h293 ?_
                            refine JL_passed rfl rfl rfl h293 ?_
                            refine JL_q (wants_none rfl) rfl (ex_pick_false rfl h293 rfl) ?_
                            refine JL_q (wants_none rfl) rfl (ex_assign rfl) ?_
                            refine JL_nil ?_
                            refine N_then ?_
                            refine J_if_false rfl rfl ?_
                            refine J_seq ?_
                            refine J_region ?_
                            refine JL_q (wants_none rfl) rfl (ex_move rfl) ?_
                            refine JL_q (wants_none rfl) rfl (ex_not rfl) ?_
                            refine JL_q (wants_none rfl) rfl (ex_assign rfl) ?_
                            refine JL_nil ?_
                            refine N_then ?_
                            refine J_if_false rfl h293 ?_
                            refine J_skip ?_
                            refine N_block ?_
                            exact N_meet' () ⟨rfl, rfl, trivial⟩ [5, 6, 7] rfl rfl
                        · refine N_then ?_
                          refine J_seq ?_
                          refine J_region ?_
                          refine JL_st (wants_none rfl) rfl (st_buildSlice_od (vs := []) (B := ([] : List Nat)) ([] : List (List Int)) [] Try.underlying33 ti_23 zi_23 rfl rfl rfl rfl rfl (fun w hh => dwv_nil)) (fun b294 => ?_)
                          refine JL_q (wants_none rfl) rfl (ex_assign rfl) ?_
                          refine JL_nil ?_
                          refine N_then ?_
                          refine J_seq ?_
                          refine J_loop' (S := Int × (List (List Int))) (G := Value × List Nat) (F_impl_DerivationOf_L3 z282) (fun s295 g296 => [(11, .pointer (some ⟨b7, 0, none⟩)), (12, .int .i64 s295.1), (14, g296.1)]) (fun s295 g296 => [.ow 102 v284 z282, mpf Value.string (Value.int .i64) b6 (mput s223.2.1 r234 (s223.1.length : Int)), .bx b7 98 [v284, .map (some b6), .bool false], .od 23 g296.1 s295.2 g296.2]) (((mget (mput s223.2.1 r234 (s223.1.length : Int)) r289).getD 0), ([] : List (List Int))) ((.slice (some ⟨b294, 0, none⟩) 0 0), ([] : List Nat)) ⟨rfl, rfl, rfl, trivial⟩ [1, 2, 3, 0] rfl rfl (fun s295 g296 => ?_) (fun s295 g296 => ?_)
                          · obtain ⟨g296_0, g296_1⟩ := g296
                            unfold F_impl_DerivationOf_L3
                            refine J_seq ?_
                            refine J_seq ?_
                            refine J_region ?_
                            refine JL_q (wants_none rfl) rfl (ex_move rfl) ?_
                            refine JL_q (wants_none rfl) rfl (ex_nilCheck rfl) ?_
                            refine JL_q (wants_none rfl) rfl (ex_fieldAddr fi_98_0 rfl rfl) ?_
                            refine JL_q (wants_none rfl) rfl (ex_load_bx 2 ti_95 rfl rfl rfl) ?_
                            refine JL_q (wants_none rfl) rfl (ex_move rfl) ?_
                            refine JL_bnd fun y297 hy298 => ?_
                            refine JL_ow_open (v := v284) 0 rfl hy298 ?_; rintro b299 cap300 rfl
                            refine JL_q (wants_none rfl) rfl (ex_index_ow 0 Try.underlying95 ti_102 rfl rfl rfl hy298) ?_
                            refine JL_q (wants_none rfl) rfl (ex_fieldAddr fi_102_1 rfl rfl) ?_
                            refine JL_q (wants_none rfl) rfl (ex_load_ow_part_int 0 (Gfound.at_parent _) rfl ti_3 rfl rfl hy298) ?_
                            refine JL_q (wants_none rfl) rfl (ex_geq rfl rfl) ?_
                            refine JL_nil ?_
                            refine N_then ?_
                            refine J_if rfl (fun h301 => ?_) (fun h301 => ?_)
                            · refine J_skip ?_
                              refine N_then ?_
                              refine J_seq ?_
                              refine J_block ?_
                              refine J_draw [3] (by kernel_rfl) ?_
                              refine JP_take (i := 0) [0, 1, 2] [3] rfl (by kernel_rfl) (by kernel_rfl) (by kernel_rfl) rfl rfl (wants_none rfl) rfl (ex_move rfl) ?_
                              refine JP_take (i := 1) [0, 1, 2] [3] rfl (by kernel_rfl) (by kernel_rfl) (by kernel_rfl) rfl rfl (wants_none rfl) rfl (ex_move rfl) ?_
                              refine JP_take (i := 2) [0, 1, 2] [3] rfl (by kernel_rfl) (by kernel_rfl) (by kernel_rfl) rfl rfl (wants_none rfl) rfl (ex_nilCheck rfl) ?_
                              refine JP_take (i := 3) [0, 1, 2] [3] rfl (by kernel_rfl) (by kernel_rfl) (by kernel_rfl) rfl rfl (wants_none rfl) rfl (ex_fieldAddr fi_98_0 rfl rfl) ?_
                              refine JP_take (i := 4) [0, 1, 2] [3] rfl (by kernel_rfl) (by kernel_rfl) (by kernel_rfl) rfl rfl (wants_none rfl) rfl (ex_load_bx 2 ti_95 rfl rfl rfl) ?_
                              refine JP_take (i := 5) [0, 1, 2] [3] rfl (by kernel_rfl) (by kernel_rfl) (by kernel_rfl) rfl rfl (wants_none rfl) rfl (ex_move rfl) ?_
                              refine JP_bnd fun y302 hy303 => ?_
                              refine JP_take (i := 6) [0, 1, 2] [3] rfl (by kernel_rfl) (by kernel_rfl) (by kernel_rfl) rfl rfl (wants_none rfl) rfl (ex_index_ow 0 Try.underlying95 ti_102 rfl rfl rfl hy303) ?_
                              refine JP_take (i := 7) [0, 1, 2] [3] rfl (by kernel_rfl) (by kernel_rfl) (by kernel_rfl) rfl rfl (wants_none rfl) rfl (ex_fieldAddr fi_102_0 rfl rfl) ?_
                              refine JP_take (i := 8) [0, 1, 2] [3] rfl (by kernel_rfl) (by kernel_rfl) (by kernel_rfl) rfl rfl (wants_none rfl) rfl (ex_fieldAddr fi_100_0 rfl rfl) ?_
                              refine JP_take (i := 9) [0, 1, 2] [3] rfl (by kernel_rfl) (by kernel_rfl) (by kernel_rfl) rfl rfl (wants_none rfl) rfl (ex_load_ow_part_int 0 (Part.trans (Gfound.at_move _) (Gmove.at_rule _)) rfl ti_2 rfl rfl hy303) ?_
                              refine JP_take (i := 10) [0, 1, 2] [3] rfl (by kernel_rfl) (by kernel_rfl) (by kernel_rfl) rfl rfl (wants_none rfl) rfl (ex_move rfl) ?_
                              refine JP_take (i := 11) [0, 1, 2] [3] rfl (by kernel_rfl) (by kernel_rfl) (by kernel_rfl) rfl rfl (wants_none rfl) rfl (ex_nilCheck rfl) ?_
                              refine JP_take (i := 12) [0, 1, 2] [3] rfl (by kernel_rfl) (by kernel_rfl) (by kernel_rfl) rfl rfl (wants_none rfl) rfl (ex_fieldAddr fi_98_0 rfl rfl) ?_
                              refine JP_take (i := 13) [0, 1, 2] [3] rfl (by kernel_rfl) (by kernel_rfl) (by kernel_rfl) rfl rfl (wants_none rfl) rfl (ex_load_bx 2 ti_95 rfl rfl rfl) ?_
                              refine JP_take (i := 14) [0, 1, 2] [3] rfl (by kernel_rfl) (by kernel_rfl) (by kernel_rfl) rfl rfl (wants_none rfl) rfl (ex_move rfl) ?_
                              refine JP_bnd fun y304 hy305 => ?_
                              refine JP_take (i := 15) [0, 1, 2] [3] rfl (by kernel_rfl) (by kernel_rfl) (by kernel_rfl) rfl rfl (wants_none rfl) rfl (ex_index_ow 0 Try.underlying95 ti_102 rfl rfl rfl hy305) ?_
                              refine JP_take (i := 16) [0, 1, 2] [3] rfl (by kernel_rfl) (by kernel_rfl) (by kernel_rfl) rfl rfl (wants_none rfl) rfl (ex_fieldAddr fi_102_0 rfl rfl) ?_
                              refine JP_take (i := 17) [0, 1, 2] [3] rfl (by kernel_rfl) (by kernel_rfl) (by kernel_rfl) rfl rfl (wants_none rfl) rfl (ex_fieldAddr fi_100_1 rfl rfl) ?_
                              refine JP_take (i := 18) [0, 1, 2] [3] rfl (by kernel_rfl) (by kernel_rfl) (by kernel_rfl) rfl rfl (wants_none rfl) rfl (ex_load_ow_part_int 0 (Part.trans (Gfound.at_move _) (Gmove.at_at_ _)) rfl ti_2 rfl rfl hy305) ?_
                              refine JP_go [0, 1, 2] [3] rfl rfl rfl (fun w307 h1_308 hp306 => ?_)
                              refine JD_one (i := 19) (by kernel_rfl) ?_
                              refine JO_st rfl (wants_none rfl) rfl (st_buildSlice (vs := [.int .i64 ((⟨y302.move_rule, y302.move_at_, y302.move_word⟩ : Gmove).rule), .int .i64 ((⟨y304.move_rule, y304.move_at_, y304.move_word⟩ : Gmove).at_)]) ([(⟨y302.move_rule, y302.move_at_, y302.move_word⟩ : Gmove).rule, (⟨y304.move_rule, y304.move_at_, y304.move_word⟩ : Gmove).at_] : List Int) Try.underlying23 ti_2 zi_2 rfl rfl rfl (fun w hh => ⟨(Rd.mk_int _ _ _), (Rd.mk_int _ _ _), trivial⟩)) (fun _ hk => nomatch hk) (fun b309 => ?_)
                              refine JD_one (i := 20) (by kernel_rfl) ?_
                              refine JO_ctx (fun w hh => hh.tokf 0 rfl rfl) (tokf_owns (i := 0) rfl) ?_
                              refine JO_st rfl (wants_none rfl) rfl (st_buildSlice_od (vs := [(.slice (some ⟨b309, 0, none⟩) 2 2)]) (B := ((((.slice (some ⟨b309, 0, none⟩) 2 2) : Value).ownBlock.toList ++ []) ++ [])) ([([(⟨y302.move_rule, y302.move_at_, y302.move_word⟩ : Gmove).rule, (⟨y304.move_rule, y304.move_at_, y304.move_word⟩ : Gmove).at_] : List Int)] : List (List Int)) [0] Try.underlying33 ti_23 zi_23 rfl rfl rfl rfl rfl (fun w hh => (dwv_cons (hh.dw 0 rfl) dwv_nil))) (fun _ hk => nomatch hk) (fun b310 => ?_)
                              refine JD_bnd fun z311 hz312 => ?_
                              refine JD_one (i := 21) (by kernel_rfl) ?_
                              refine JO_st rfl (wants_none rfl) rfl (st_append_od 6 0 Try.underlying33 ti_23 zi_23 rfl bi_23 rfl rfl rfl rfl rfl rfl hz312) (sub_od 0 rfl) (fun v313 => ?_)
                              refine JD_take (i := 22) hp306 rfl (by kernel_rfl) (by kernel_rfl) (by kernel_rfl) (wants_none rfl) rfl (ex_assign rfl) ?_
                              refine JD_done (by kernel_rfl) ?_
                              refine N_block ?_
                              refine N_then ?_
                              refine J_region ?_
                              refine JL_q (wants_none rfl) rfl (ex_move rfl) ?_
                              refine JL_q (wants_none rfl) rfl (ex_nilCheck rfl) ?_
                              refine JL_q (wants_none rfl) rfl (ex_fieldAddr fi_98_0 rfl rfl) ?_
                              refine JL_q (wants_none rfl) rfl (ex_load_bx 5 ti_95 rfl rfl rfl) ?_
                              refine JL_q (wants_none rfl) rfl (ex_move rfl) ?_
                              refine JL_bnd fun y314 hy315 => ?_
                              refine JL_q (wants_none rfl) rfl (ex_index_ow 3 Try.underlying95 ti_102 rfl rfl rfl hy315) ?_
                              refine JL_q (wants_none rfl) rfl (ex_fieldAddr fi_102_1 rfl rfl) ?_
                              refine JL_q (wants_none rfl) rfl (ex_load_ow_part_int 3 (Gfound.at_parent _) rfl ti_3 rfl rfl hy315) ?_
                              refine JL_q (wants_none rfl) rfl (ex_assign rfl) ?_
                              refine JL_nil ?_
                              exact N_next' (v313, (g296_1 ++ ((((.slice (some ⟨b309, 0, none⟩) 2 2) : Value).ownBlock.toList ++ []) ++ []))) ⟨rfl, rfl, rfl, trivial⟩ [3, 4, 5, 6] rfl rfl
                            · refine J_exit ?_
                              refine N_then_exit ?_
                              exact N_break' (g296_0, g296_1) ⟨rfl, rfl, rfl, trivial⟩ [0, 1, 2, 3] rfl rfl
                          · obtain ⟨g296_0, g296_1⟩ := g296
                            refine N_then ?_
                            refine J_seq ?_
                            refine J_seq ?_
                            refine J_region ?_
                            refine JL_q (wants_none rfl) rfl (ex_move rfl) ?_
                            refine JL_q (wants_none rfl) rfl (ex_od 3 rfl (ex_len_ow 3 Try.underlying33 rfl rfl)) ?_
                            refine JL_q (wants_none rfl) rfl (ex_gtr rfl rfl) ?_
                            refine JL_nil ?_
                            refine N_then ?_
                            refine J_if rfl (fun h316 => ?_) (fun h316 => ?_)
                            · refine J_seq ?_
                              refine J_region ?_
                              refine JL_q (wants_none rfl) rfl (ex_assign rfl) ?_
                              refine JL_q (wants_none rfl) rfl (ex_assign rfl) ?_
                              refine JL_nil ?_
                              refine N_then ?_
                              refine J_ret ?_
                              refine N_then_ret ?_
                              refine N_ctx (fun w hh => SH.od_nil (α := (List Int)) 23 hh) ?_
                              exact N_ret2 rfl (rv_tmp rfl) (rv_tmp rfl) (fun w hh => ⟨((.slice none 0 0 : Value), ([] : List Nat)), rfl, hh.sel [0] rfl⟩)
                            · refine J_skip ?_
                              refine N_then ?_
                              refine J_seq ?_
                              refine J_region ?_
                              refine JL_q (wants_none rfl) rfl (ex_move rfl) ?_
                              refine JL_bnd fun z317 hz318 => ?_
                              refine JL_rev_od 3 rc_slices_Reverse_SSint64_Sint64 rfl (wants_none rfl) rfl Try.call60 rfl rfl hz318 ?_
                              refine JL_nil ?_
                              refine N_then ?_
                              refine J_seq ?_
                              refine J_region ?_
                              refine JL_q (wants_none rfl) rfl (ex_move rfl) ?_
                              refine JL_q (wants_none rfl) rfl (ex_assign rfl) ?_
                              refine JL_q (wants_none rfl) rfl (ex_assign rfl) ?_
                              refine JL_nil ?_
                              refine N_then ?_
                              refine J_ret ?_
                              exact N_ret2 rfl (rv_tmp rfl) (rv_tmp rfl) (fun w hh => ⟨(g296_0, g296_1), rfl, hh.sel [3] rfl⟩)
                      · refine J_skip ?_
                        refine N_block ?_
                        refine N_then ?_
                        refine J_region ?_
                        refine JL_q (wants_none rfl) rfl (ex_add rfl rfl) ?_
                        refine JL_q (wants_none rfl) rfl (ex_move rfl) ?_
                        refine JL_nil ?_
                        exact N_next' v284 ⟨rfl, rfl, rfl, rfl, rfl, rfl, rfl, trivial⟩ [4, 5, 6, 7, 8, 9] rfl rfl
                  · refine J_skip ?_
                    refine N_inl0 (.inr rfl) hK232 rfl ?_
                    refine JL_nil ?_
                    refine N_then ?_
                    refine J_seq ?_
                    refine J_region ?_
                    refine JL_q (wants_none rfl) rfl (ex_move rfl) ?_
                    refine JL_q (wants_none rfl) rfl (ex_nilCheck rfl) ?_
                    refine JL_q (wants_none rfl) rfl (ex_fieldAddr fi_98_0 rfl rfl) ?_
                    refine JL_q (wants_none rfl) rfl (ex_load_bx 6 ti_95 rfl rfl rfl) ?_
                    refine JL_q (wants_none rfl) rfl (ex_len_ow 4 Try.underlying95 rfl rfl) ?_
                    refine JL_q (wants_none rfl) rfl (ex_eql rfl rfl) ?_
                    refine JL_nil ?_
                    refine N_then ?_
                    refine J_if rfl (fun h319 => ?_) (fun h319 => ?_)
                    · refine J_seq ?_
                      refine J_region ?_
                      refine JL_q (wants_none rfl) rfl (ex_move rfl) ?_
                      refine JL_q (wants_none rfl) rfl (ex_nilCheck rfl) ?_
                      refine JL_q (wants_none rfl) rfl (ex_fieldAddr fi_98_2 rfl rfl) ?_
                      refine JL_sk (wants_none rfl) (sk_store_bx' 6 ti_4 rfl rfl (fun w hh => cv_bool) rfl rfl rfl rfl) ?_
                      refine JL_nil ?_
                      refine N_then ?_
                      refine J_seq ?_
                      refine J_region ?_
                      refine JL_q (wants_none rfl) rfl (ex_move rfl) ?_
                      refine JL_q (wants_none rfl) rfl (ex_assign rfl) ?_
                      refine JL_nil ?_
                      refine N_then ?_
                      refine J_ret ?_
                      refine N_block_ret ?_
                      refine N_then_ret ?_
                      refine N_round_ret ?_
                      refine N_block_ret ?_
                      refine N_then_ret ?_
                      refine N_round_reti ?_
                      refine N_then_ret ?_
                      refine N_inl1 hK5 rfl (rv_tmp rfl) ?_
                      refine JL_q (wants_none rfl) rfl (ex_assign rfl) ?_
                      refine JL_nil ?_
                      refine N_then ?_
                      refine J_seq ?_
                      refine J_draw [] (by kernel_rfl) ?_
                      refine JP_take (i := 0) [0, 1, 2, 3, 4, 5, 6, 7, 8] [] rfl (by kernel_rfl) (by kernel_rfl) (by kernel_rfl) rfl rfl (wants_none rfl) rfl (ex_move rfl) ?_
                      refine JP_take (i := 1) [0, 1, 2, 3, 4, 5, 6, 7, 8] [] rfl (by kernel_rfl) (by kernel_rfl) (by kernel_rfl) rfl rfl (wants_none rfl) rfl (ex_nilCheck rfl) ?_
                      refine JP_take (i := 2) [0, 1, 2, 3, 4, 5, 6, 7, 8] [] rfl (by kernel_rfl) (by kernel_rfl) (by kernel_rfl) rfl rfl (wants_none rfl) rfl (ex_fieldAddr fi_98_1 rfl rfl) ?_
                      refine JP_take (i := 3) [0, 1, 2, 3, 4, 5, 6, 7, 8] [] rfl (by kernel_rfl) (by kernel_rfl) (by kernel_rfl) rfl rfl (wants_none rfl) rfl (ex_load_bx 6 ti_96 rfl rfl rfl) ?_
                      refine JP_take (i := 4) [0, 1, 2, 3, 4, 5, 6, 7, 8] [] rfl (by kernel_rfl) (by kernel_rfl) (by kernel_rfl) rfl rfl (wants_none rfl) rfl (ex_move rfl) ?_
                      refine JP_go [0, 1, 2, 3, 4, 5, 6, 7, 8] [] rfl rfl rfl (fun w321 h1_322 hp320 => ?_)
                      refine JD_bnd fun r323 hr324 => ?_
                      refine JD_one (i := 5) (by kernel_rfl) ?_
                      refine JO_call rfl (wants_none rfl) rfl Try.call59 rfl (Ca_of0 fun w hh => c_impl_keyOf _ w (fun _ hk => hk.elim) _ _ (hh.rd0 8 rfl) _ hr324) (fun _ => ?_)
                      refine JD_take (i := 6) hp320 rfl (by kernel_rfl) (by kernel_rfl) (by kernel_rfl) (wants_none rfl) rfl (ex_lookup_ok (x := r323) (z := 0) 5 key_9 Try.underlying96 zi_3 rfl rfl rfl rfl rfl) ?_
                      refine JD_take (i := 7) hp320 rfl (by kernel_rfl) (by kernel_rfl) (by kernel_rfl) (wants_none rfl) rfl (ex_move rfl) ?_
                      refine JD_take (i := 8) hp320 rfl (by kernel_rfl) (by kernel_rfl) (by kernel_rfl) (wants_none rfl) rfl (ex_extract rfl rfl) ?_
                      refine JD_take (i := 9) hp320 rfl (by kernel_rfl) (by kernel_rfl) (by kernel_rfl) (wants_none rfl) rfl (ex_extract rfl rfl) ?_
                      refine JD_take (i := 10) hp320 rfl (by kernel_rfl) (by kernel_rfl) (by kernel_rfl) (wants_none rfl) rfl (ex_assign rfl) ?_
                      refine JD_take (i := 11) hp320 rfl (by kernel_rfl) (by kernel_rfl) (by kernel_rfl) (wants_none rfl) rfl (ex_assign rfl) ?_
                      refine JD_done (by kernel_rfl) ?_
                      refine N_then ?_
                      refine J_seq ?_
                      refine J_cut' (S' := Unit) (G' := Unit) (fun _ _ => [(11, .pointer (some ⟨b7, 0, none⟩)), (12, .int .i64 ((mget s223.2.1 r323).getD 0))]) (fun _ _ => [.ow 102 g224 s223.1, mpf Value.string (Value.int .i64) b6 s223.2.1, .bx b7 98 [g224, .map (some b6), .bool false]]) ?_ (fun s325 g326 => ?_)
                      · refine J_block ?_
                        refine J_seq ?_
                        refine J_region ?_
                        refine JL_q (wants_none rfl) rfl (ex_move rfl) ?_
                        refine JL_q (wants_none rfl) rfl (ex_not rfl) ?_
                        refine JL_q (wants_none rfl) rfl (ex_move rfl) ?_
                        refine JL_cond (fun h327 => ?_) (fun h327 => ?_)
                        · refine JL_q (wants_some rfl rfl rfl h327) rfl (ex_move rfl) ?_
                          refine JL_q (wants_some rfl rfl rfl h327) rfl (ex_nilCheck rfl) ?_
                          refine JL_q (wants_some rfl rfl rfl h327) rfl (ex_fieldAddr fi_98_2 rfl rfl) ?_
                          refine JL_q (wants_some rfl rfl rfl h327) rfl (ex_load_bx 6 ti_4 rfl rfl rfl) ?_
                          refine JL_q (wants_none rfl) rfl (ex_pick_true rfl h327 rfl) ?_
                          refine JL_q (wants_none rfl) rfl (ex_assign rfl) ?_
                          refine JL_nil ?_
                          refine N_then ?_
                          refine J_if_false rfl rfl ?_
                          refine J_seq ?_
                          refine J_region ?_
                          refine JL_q (wants_none rfl) rfl (ex_move rfl) ?_
                          refine JL_q (wants_none rfl) rfl (ex_not rfl) ?_
                          refine JL_q (wants_none rfl) rfl (ex_assign rfl) ?_
                          refine JL_nil ?_
                          refine N_then ?_
                          refine J_if_true rfl h327 ?_
                          refine J_seq ?_
                          refine J_region ?_
                          refine JL_q (wants_none rfl) rfl (ex_assign rfl) ?_
                          refine JL_q (wants_none rfl) rfl (ex_assign rfl) ?_
                          refine JL_nil ?_
                          refine N_then ?_
                          refine J_ret ?_
                          refine N_block_ret ?_
                          refine N_mid_ret ?_
                          refine N_then_ret ?_
                          refine N_ctx (fun w hh => SH.od_nil (α := (List Int)) 23 hh) ?_
                          exact N_ret2 rfl (rv_tmp rfl) (rv_tmp rfl) (fun w hh => ⟨((.slice none 0 0 : Value), ([] : List Nat)), rfl, hh.sel [0] rfl⟩)
                        · refine JL_passed rfl rfl rfl h327 ?_
                          refine JL_passed rfl rfl rfl h327 ?_
                          refine JL_passed rfl rfl rfl h327 ?_
                          refine JL_passed rfl rfl rfl h327 ?_
                          refine JL_q (wants_none rfl) rfl (ex_pick_false rfl h327 rfl) ?_
                          refine JL_q (wants_none rfl) rfl (ex_assign rfl) ?_
                          refine JL_nil ?_
                          refine N_then ?_
                          refine J_if_false rfl rfl ?_
                          refine J_seq ?_
                          refine J_region ?_
                          refine JL_q (wants_none rfl) rfl (ex_move rfl) ?_
                          refine JL_q (wants_none rfl) rfl (ex_not rfl) ?_
                          refine JL_q (wants_none rfl) rfl (ex_assign rfl) ?_
                          refine JL_nil ?_
                          refine N_then ?_
                          refine J_if_false rfl h327 ?_
                          refine J_skip ?_
                          refine N_block ?_
                          exact N_meet' () ⟨rfl, rfl, trivial⟩ [4, 5, 6] rfl rfl
                      · refine N_then ?_
                        refine J_seq ?_
                        refine J_region ?_
                        refine JL_st (wants_none rfl) rfl (st_buildSlice_od (vs := []) (B := ([] : List Nat)) ([] : List (List Int)) [] Try.underlying33 ti_23 zi_23 rfl rfl rfl rfl rfl (fun w hh => dwv_nil)) (fun b328 => ?_)
                        refine JL_q (wants_none rfl) rfl (ex_assign rfl) ?_
                        refine JL_nil ?_
                        refine N_then ?_
                        refine J_seq ?_
                        refine J_loop' (S := Int × (List (List Int))) (G := Value × List Nat) (F_impl_DerivationOf_L4 s223) (fun s329 g330 => [(11, .pointer (some ⟨b7, 0, none⟩)), (12, .int .i64 s329.1), (14, g330.1)]) (fun s329 g330 => [.ow 102 g224 s223.1, mpf Value.string (Value.int .i64) b6 s223.2.1, .bx b7 98 [g224, .map (some b6), .bool false], .od 23 g330.1 s329.2 g330.2]) (((mget s223.2.1 r323).getD 0), ([] : List (List Int))) ((.slice (some ⟨b328, 0, none⟩) 0 0), ([] : List Nat)) ⟨rfl, rfl, rfl, trivial⟩ [1, 2, 3, 0] rfl rfl (fun s329 g330 => ?_) (fun s329 g330 => ?_)
                        · obtain ⟨g330_0, g330_1⟩ := g330
                          unfold F_impl_DerivationOf_L4
                          refine J_seq ?_
                          refine J_seq ?_
                          refine J_region ?_
                          refine JL_q (wants_none rfl) rfl (ex_move rfl) ?_
                          refine JL_q (wants_none rfl) rfl (ex_nilCheck rfl) ?_
                          refine JL_q (wants_none rfl) rfl (ex_fieldAddr fi_98_0 rfl rfl) ?_
                          refine JL_q (wants_none rfl) rfl (ex_load_bx 2 ti_95 rfl rfl rfl) ?_
                          refine JL_q (wants_none rfl) rfl (ex_move rfl) ?_
                          refine JL_bnd fun y331 hy332 => ?_
                          refine JL_ow_open (v := g224) 0 rfl hy332 ?_; rintro b333 cap334 rfl
                          refine JL_q (wants_none rfl) rfl (ex_index_ow 0 Try.underlying95 ti_102 rfl rfl rfl hy332) ?_
                          refine JL_q (wants_none rfl) rfl (ex_fieldAddr fi_102_1 rfl rfl) ?_
                          refine JL_q (wants_none rfl) rfl (ex_load_ow_part_int 0 (Gfound.at_parent _) rfl ti_3 rfl rfl hy332) ?_
                          refine JL_q (wants_none rfl) rfl (ex_geq rfl rfl) ?_
                          refine JL_nil ?_
                          refine N_then ?_
                          refine J_if rfl (fun h335 => ?_) (fun h335 => ?_)
                          · refine J_skip ?_
                            refine N_then ?_
                            refine J_seq ?_
                            refine J_block ?_
                            refine J_draw [3] (by kernel_rfl) ?_
                            refine JP_take (i := 0) [0, 1, 2] [3] rfl (by kernel_rfl) (by kernel_rfl) (by kernel_rfl) rfl rfl (wants_none rfl) rfl (ex_move rfl) ?_
                            refine JP_take (i := 1) [0, 1, 2] [3] rfl (by kernel_rfl) (by kernel_rfl) (by kernel_rfl) rfl rfl (wants_none rfl) rfl (ex_move rfl) ?_
                            refine JP_take (i := 2) [0, 1, 2] [3] rfl (by kernel_rfl) (by kernel_rfl) (by kernel_rfl) rfl rfl (wants_none rfl) rfl (ex_nilCheck rfl) ?_
                            refine JP_take (i := 3) [0, 1, 2] [3] rfl (by kernel_rfl) (by kernel_rfl) (by kernel_rfl) rfl rfl (wants_none rfl) rfl (ex_fieldAddr fi_98_0 rfl rfl) ?_
                            refine JP_take (i := 4) [0, 1, 2] [3] rfl (by kernel_rfl) (by kernel_rfl) (by kernel_rfl) rfl rfl (wants_none rfl) rfl (ex_load_bx 2 ti_95 rfl rfl rfl) ?_
                            refine JP_take (i := 5) [0, 1, 2] [3] rfl (by kernel_rfl) (by kernel_rfl) (by kernel_rfl) rfl rfl (wants_none rfl) rfl (ex_move rfl) ?_
                            refine JP_bnd fun y336 hy337 => ?_
                            refine JP_take (i := 6) [0, 1, 2] [3] rfl (by kernel_rfl) (by kernel_rfl) (by kernel_rfl) rfl rfl (wants_none rfl) rfl (ex_index_ow 0 Try.underlying95 ti_102 rfl rfl rfl hy337) ?_
                            refine JP_take (i := 7) [0, 1, 2] [3] rfl (by kernel_rfl) (by kernel_rfl) (by kernel_rfl) rfl rfl (wants_none rfl) rfl (ex_fieldAddr fi_102_0 rfl rfl) ?_
                            refine JP_take (i := 8) [0, 1, 2] [3] rfl (by kernel_rfl) (by kernel_rfl) (by kernel_rfl) rfl rfl (wants_none rfl) rfl (ex_fieldAddr fi_100_0 rfl rfl) ?_
                            refine JP_take (i := 9) [0, 1, 2] [3] rfl (by kernel_rfl) (by kernel_rfl) (by kernel_rfl) rfl rfl (wants_none rfl) rfl (ex_load_ow_part_int 0 (Part.trans (Gfound.at_move _) (Gmove.at_rule _)) rfl ti_2 rfl rfl hy337) ?_
                            refine JP_take (i := 10) [0, 1, 2] [3] rfl (by kernel_rfl) (by kernel_rfl) (by kernel_rfl) rfl rfl (wants_none rfl) rfl (ex_move rfl) ?_
                            refine JP_take (i := 11) [0, 1, 2] [3] rfl (by kernel_rfl) (by kernel_rfl) (by kernel_rfl) rfl rfl (wants_none rfl) rfl (ex_nilCheck rfl) ?_
                            refine JP_take (i := 12) [0, 1, 2] [3] rfl (by kernel_rfl) (by kernel_rfl) (by kernel_rfl) rfl rfl (wants_none rfl) rfl (ex_fieldAddr fi_98_0 rfl rfl) ?_
                            refine JP_take (i := 13) [0, 1, 2] [3] rfl (by kernel_rfl) (by kernel_rfl) (by kernel_rfl) rfl rfl (wants_none rfl) rfl (ex_load_bx 2 ti_95 rfl rfl rfl) ?_
                            refine JP_take (i := 14) [0, 1, 2] [3] rfl (by kernel_rfl) (by kernel_rfl) (by kernel_rfl) rfl rfl (wants_none rfl) rfl (ex_move rfl) ?_
                            refine JP_bnd fun y338 hy339 => ?_
                            refine JP_take (i := 15) [0, 1, 2] [3] rfl (by kernel_rfl) (by kernel_rfl) (by kernel_rfl) rfl rfl (wants_none rfl) rfl (ex_index_ow 0 Try.underlying95 ti_102 rfl rfl rfl hy339) ?_
                            refine JP_take (i := 16) [0, 1, 2] [3] rfl (by kernel_rfl) (by kernel_rfl) (by kernel_rfl) rfl rfl (wants_none rfl) rfl (ex_fieldAddr fi_102_0 rfl rfl) ?_
                            refine JP_take (i := 17) [0, 1, 2] [3] rfl (by kernel_rfl) (by kernel_rfl) (by kernel_rfl) rfl rfl (wants_none rfl) rfl (ex_fieldAddr fi_100_1 rfl rfl) ?_
                            refine JP_take (i := 18) [0, 1, 2] [3] rfl (by kernel_rfl) (by kernel_rfl) (by kernel_rfl) rfl rfl (wants_none rfl) rfl (ex_load_ow_part_int 0 (Part.trans (Gfound.at_move _) (Gmove.at_at_ _)) rfl ti_2 rfl rfl hy339) ?_
                            refine JP_go [0, 1, 2] [3] rfl rfl rfl (fun w341 h1_342 hp340 => ?_)
                            refine JD_one (i := 19) (by kernel_rfl) ?_
                            refine JO_st rfl (wants_none rfl) rfl (st_buildSlice (vs := [.int .i64 ((⟨y336.move_rule, y336.move_at_, y336.move_word⟩ : Gmove).rule), .int .i64 ((⟨y338.move_rule, y338.move_at_, y338.move_word⟩ : Gmove).at_)]) ([(⟨y336.move_rule, y336.move_at_, y336.move_word⟩ : Gmove).rule, (⟨y338.move_rule, y338.move_at_, y338.move_word⟩ : Gmove).at_] : List Int) Try.underlying23 ti_2 zi_2 rfl rfl rfl (fun w hh => ⟨(Rd.mk_int _ _ _), (Rd.mk_int _ _ _), trivial⟩)) (fun _ hk => nomatch hk) (fun b343 => ?_)
                            refine JD_one (i := 20) (by kernel_rfl) ?_
                            refine JO_ctx (fun w hh => hh.tokf 0 rfl rfl) (tokf_owns (i := 0) rfl) ?_
                            refine JO_st rfl (wants_none rfl) rfl (st_buildSlice_od (vs := [(.slice (some ⟨b343, 0, none⟩) 2 2)]) (B := ((((.slice (some ⟨b343, 0, none⟩) 2 2) : Value).ownBlock.toList ++ []) ++ [])) ([([(⟨y336.move_rule, y336.move_at_, y336.move_word⟩ : Gmove).rule, (⟨y338.move_rule, y338.move_at_, y338.move_word⟩ : Gmove).at_] : List Int)] : List (List Int)) [0] Try.underlying33 ti_23 zi_23 rfl rfl rfl rfl rfl (fun w hh => (dwv_cons (hh.dw 0 rfl) dwv_nil))) (fun _ hk => nomatch hk) (fun b344 => ?_)
                            refine JD_bnd fun z345 hz346 => ?_
                            refine JD_one (i := 21) (by kernel_rfl) ?_
                            refine JO_st rfl (wants_none rfl) rfl (st_append_od 6 0 Try.underlying33 ti_23 zi_23 rfl bi_23 rfl rfl rfl rfl rfl rfl hz346) (sub_od 0 rfl) (fun v347 => ?_)
                            refine JD_take (i := 22) hp340 rfl (by kernel_rfl) (by kernel_rfl) (by kernel_rfl) (wants_none rfl) rfl (ex_assign rfl) ?_
                            refine JD_done (by kernel_rfl) ?_
                            refine N_block ?_
                            refine N_then ?_
                            refine J_region ?_
                            refine JL_q (wants_none rfl) rfl (ex_move rfl) ?_
                            refine JL_q (wants_none rfl) rfl (ex_nilCheck rfl) ?_
                            refine JL_q (wants_none rfl) rfl (ex_fieldAddr fi_98_0 rfl rfl) ?_
                            refine JL_q (wants_none rfl) rfl (ex_load_bx 5 ti_95 rfl rfl rfl) ?_
                            refine JL_q (wants_none rfl) rfl (ex_move rfl) ?_
                            refine JL_bnd fun y348 hy349 => ?_
                            refine JL_q (wants_none rfl) rfl (ex_index_ow 3 Try.underlying95 ti_102 rfl rfl rfl hy349) ?_
                            refine JL_q (wants_none rfl) rfl (ex_fieldAddr fi_102_1 rfl rfl) ?_
                            refine JL_q (wants_none rfl) rfl (ex_load_ow_part_int 3 (Gfound.at_parent _) rfl ti_3 rfl rfl hy349) ?_
                            refine JL_q (wants_none rfl) rfl (ex_assign rfl) ?_
                            refine JL_nil ?_
                            exact N_next' (v347, (g330_1 ++ ((((.slice (some ⟨b343, 0, none⟩) 2 2) : Value).ownBlock.toList ++ []) ++ []))) ⟨rfl, rfl, rfl, trivial⟩ [3, 4, 5, 6] rfl rfl
                          · refine J_exit ?_
                            refine N_then_exit ?_
                            exact N_break' (g330_0, g330_1) ⟨rfl, rfl, rfl, trivial⟩ [0, 1, 2, 3] rfl rfl
                        · obtain ⟨g330_0, g330_1⟩ := g330
                          refine N_then ?_
                          refine J_seq ?_
                          refine J_seq ?_
                          refine J_region ?_
                          refine JL_q (wants_none rfl) rfl (ex_move rfl) ?_
                          refine JL_q (wants_none rfl) rfl (ex_od 3 rfl (ex_len_ow 3 Try.underlying33 rfl rfl)) ?_
                          refine JL_q (wants_none rfl) rfl (ex_gtr rfl rfl) ?_
                          refine JL_nil ?_
                          refine N_then ?_
                          refine J_if rfl (fun h350 => ?_) (fun h350 => ?_)
                          · refine J_seq ?_
                            refine J_region ?_
                            refine JL_q (wants_none rfl) rfl (ex_assign rfl) ?_
                            refine JL_q (wants_none rfl) rfl (ex_assign rfl) ?_
                            refine JL_nil ?_
                            refine N_then ?_
                            refine J_ret ?_
                            refine N_then_ret ?_
                            refine N_ctx (fun w hh => SH.od_nil (α := (List Int)) 23 hh) ?_
                            exact N_ret2 rfl (rv_tmp rfl) (rv_tmp rfl) (fun w hh => ⟨((.slice none 0 0 : Value), ([] : List Nat)), rfl, hh.sel [0] rfl⟩)
                          · refine J_skip ?_
                            refine N_then ?_
                            refine J_seq ?_
                            refine J_region ?_
                            refine JL_q (wants_none rfl) rfl (ex_move rfl) ?_
                            refine JL_bnd fun z351 hz352 => ?_
                            refine JL_rev_od 3 rc_slices_Reverse_SSint64_Sint64 rfl (wants_none rfl) rfl Try.call60 rfl rfl hz352 ?_
                            refine JL_nil ?_
                            refine N_then ?_
                            refine J_seq ?_
                            refine J_region ?_
                            refine JL_q (wants_none rfl) rfl (ex_move rfl) ?_
                            refine JL_q (wants_none rfl) rfl (ex_assign rfl) ?_
                            refine JL_q (wants_none rfl) rfl (ex_assign rfl) ?_
                            refine JL_nil ?_
                            refine N_then ?_
                            refine J_ret ?_
                            exact N_ret2 rfl (rv_tmp rfl) (rv_tmp rfl) (fun w hh => ⟨(g330_0, g330_1), rfl, hh.sel [3] rfl⟩)
                    · refine J_skip ?_
                      refine N_block ?_
                      refine N_then ?_
                      refine J_region ?_
                      refine JL_q (wants_none rfl) rfl (ex_add rfl rfl) ?_
                      refine JL_q (wants_none rfl) rfl (ex_move rfl) ?_
                      refine JL_nil ?_
                      exact N_next' g224 ⟨rfl, rfl, rfl, rfl, rfl, rfl, rfl, trivial⟩ [3, 4, 5, 6, 7, 8] rfl rfl
                · refine J_exit ?_
                  refine N_then_exit ?_
                  exact N_break' g224 ⟨rfl, rfl, rfl, rfl, rfl, rfl, rfl, trivial⟩ [0, 1, 2, 3, 4, 5] rfl rfl
              · refine N_block ?_
                refine N_then ?_
                refine J_region ?_
                refine JL_q (wants_none rfl) rfl (ex_move rfl) ?_
                refine JL_q (wants_none rfl) rfl (ex_add rfl rfl) ?_
                refine JL_q (wants_none rfl) rfl (ex_assign rfl) ?_
                refine JL_nil ?_
                exact N_next' g224 ⟨rfl, rfl, rfl, rfl, trivial⟩ [0, 1, 2, 3, 5] rfl rfl
        · refine J_exit ?_
          refine N_then_exit ?_
          exact N_break' g209 ⟨rfl, rfl, rfl, rfl, trivial⟩ [0, 1, 2, 3, 4] rfl rfl
      · refine N_then ?_
        refine J_seq ?_
        refine J_region ?_
        refine JL_q (wants_none rfl) rfl (ex_move rfl) ?_
        refine JL_q (wants_none rfl) rfl (ex_assign rfl) ?_
        refine JL_nil ?_
        refine N_then ?_
        refine J_ret ?_
        refine N_inl1 hK5 rfl (rv_tmp rfl) ?_
        refine JL_q (wants_none rfl) rfl (ex_assign rfl) ?_
        refine JL_nil ?_
        refine N_then ?_
        refine J_seq ?_
        refine J_draw [] (by kernel_rfl) ?_
        refine JP_take (i := 0) [0, 1, 2, 3, 4] [] rfl (by kernel_rfl) (by kernel_rfl) (by kernel_rfl) rfl rfl (wants_none rfl) rfl (ex_move rfl) ?_
        refine JP_take (i := 1) [0, 1, 2, 3, 4] [] rfl (by kernel_rfl) (by kernel_rfl) (by kernel_rfl) rfl rfl (wants_none rfl) rfl (ex_nilCheck rfl) ?_
        refine JP_take (i := 2) [0, 1, 2, 3, 4] [] rfl (by kernel_rfl) (by kernel_rfl) (by kernel_rfl) rfl rfl (wants_none rfl) rfl (ex_fieldAddr fi_98_1 rfl rfl) ?_
        refine JP_take (i := 3) [0, 1, 2, 3, 4] [] rfl (by kernel_rfl) (by kernel_rfl) (by kernel_rfl) rfl rfl (wants_none rfl) rfl (ex_load_bx 3 ti_96 rfl rfl rfl) ?_
        refine JP_take (i := 4) [0, 1, 2, 3, 4] [] rfl (by kernel_rfl) (by kernel_rfl) (by kernel_rfl) rfl rfl (wants_none rfl) rfl (ex_move rfl) ?_
        refine JP_go [0, 1, 2, 3, 4] [] rfl rfl rfl (fun w354 h1_355 hp353 => ?_)
        refine JD_bnd fun r356 hr357 => ?_
        refine JD_one (i := 5) (by kernel_rfl) ?_
        refine JO_call rfl (wants_none rfl) rfl Try.call59 rfl (Ca_of0 fun w hh => c_impl_keyOf _ w (fun _ hk => hk.elim) _ _ (hh.rd0 4 rfl) _ hr357) (fun _ => ?_)
        refine JD_take (i := 6) hp353 rfl (by kernel_rfl) (by kernel_rfl) (by kernel_rfl) (wants_none rfl) rfl (ex_lookup_ok (x := r356) (z := 0) 2 key_9 Try.underlying96 zi_3 rfl rfl rfl rfl rfl) ?_
        refine JD_take (i := 7) hp353 rfl (by kernel_rfl) (by kernel_rfl) (by kernel_rfl) (wants_none rfl) rfl (ex_move rfl) ?_
        refine JD_take (i := 8) hp353 rfl (by kernel_rfl) (by kernel_rfl) (by kernel_rfl) (wants_none rfl) rfl (ex_extract rfl rfl) ?_
        refine JD_take (i := 9) hp353 rfl (by kernel_rfl) (by kernel_rfl) (by kernel_rfl) (wants_none rfl) rfl (ex_extract rfl rfl) ?_
        refine JD_take (i := 10) hp353 rfl (by kernel_rfl) (by kernel_rfl) (by kernel_rfl) (wants_none rfl) rfl (ex_assign rfl) ?_
        refine JD_take (i := 11) hp353 rfl (by kernel_rfl) (by kernel_rfl) (by kernel_rfl) (wants_none rfl) rfl (ex_assign rfl) ?_
        refine JD_done (by kernel_rfl) ?_
        refine N_then ?_
        refine J_seq ?_
        refine J_cut' (S' := Unit) (G' := Unit) (fun _ _ => [(11, .pointer (some ⟨b7, 0, none⟩)), (12, .int .i64 ((mget s208.2.1 r356).getD 0))]) (fun _ _ => [.ow 102 g209 s208.1, mpf Value.string (Value.int .i64) b6 s208.2.1, .bx b7 98 [g209, .map (some b6), .bool s208.2.2.1]]) ?_ (fun s358 g359 => ?_)
        · refine J_block ?_
          refine J_seq ?_
          refine J_region ?_
          refine JL_q (wants_none rfl) rfl (ex_move rfl) ?_
          refine JL_q (wants_none rfl) rfl (ex_not rfl) ?_
          refine JL_q (wants_none rfl) rfl (ex_move rfl) ?_
          refine JL_cond (fun h360 => ?_) (fun h360 => ?_)
          · refine JL_q (wants_some rfl rfl rfl h360) rfl (ex_move rfl) ?_
            refine JL_q (wants_some rfl rfl rfl h360) rfl (ex_nilCheck rfl) ?_
            refine JL_q (wants_some rfl rfl rfl h360) rfl (ex_fieldAddr fi_98_2 rfl rfl) ?_
            refine JL_q (wants_some rfl rfl rfl h360) rfl (ex_load_bx 3 ti_4 rfl rfl rfl) ?_
            refine JL_q (wants_none rfl) rfl (ex_pick_true rfl h360 rfl) ?_
            refine JL_q (wants_none rfl) rfl (ex_assign rfl) ?_
            refine JL_nil ?_
            refine N_then ?_
            refine J_if rfl (fun h361 => ?_) (fun h361 => ?_)
            · refine J_seq ?_
              refine J_region ?_
              refine JL_q (wants_none rfl) rfl (ex_assign rfl) ?_
              refine JL_q (wants_none rfl) rfl (ex_assign rfl) ?_
              refine JL_nil ?_
              refine N_then ?_
              refine J_ret ?_
              refine N_block_ret ?_
              refine N_mid_ret ?_
              refine N_then_ret ?_
              refine N_ctx (fun w hh => SH.od_nil (α := (List Int)) 23 hh) ?_
              exact N_ret2 rfl (rv_tmp rfl) (rv_tmp rfl) (fun w hh => ⟨((.slice none 0 0 : Value), ([] : List Nat)), rfl, hh.sel [0] rfl⟩)
            · refine J_seq ?_
              refine J_region ?_
              refine JL_q (wants_none rfl) rfl (ex_move rfl) ?_
              refine JL_q (wants_none rfl) rfl (ex_not rfl) ?_
              refine JL_q (wants_none rfl) rfl (ex_assign rfl) ?_
              refine JL_nil ?_
              refine N_then ?_
              refine J_if_true rfl h360 ?_
              refine J_seq ?_
              refine J_region ?_
              refine JL_q (wants_none rfl) rfl (ex_assign rfl) ?_
              refine JL_q (wants_none rfl) rfl (ex_assign rfl) ?_
              refine JL_nil ?_
              refine N_then ?_
              refine J_ret ?_
              refine N_block_ret ?_
              refine N_mid_ret ?_
              refine N_then_ret ?_
              refine N_ctx (fun w hh => SH.od_nil (α := (List Int)) 23 hh) ?_
              exact N_ret2 rfl (rv_tmp rfl) (rv_tmp rfl) (fun w hh => ⟨((.slice none 0 0 : Value), ([] : List Nat)), rfl, hh.sel [0] rfl⟩)
          · refine JL_passed rfl rfl rfl h360 ?_
            refine JL_passed rfl rfl rfl h360 ?_
            refine JL_passed rfl rfl rfl h360 ?_
            refine JL_passed rfl rfl rfl h360 ?_
            refine JL_q (wants_none rfl) rfl (ex_pick_false rfl h360 rfl) ?_
            refine JL_q (wants_none rfl) rfl (ex_assign rfl) ?_
            refine JL_nil ?_
            refine N_then ?_
            refine J_if_false rfl rfl ?_
            refine J_seq ?_
            refine J_region ?_
            refine JL_q (wants_none rfl) rfl (ex_move rfl) ?_
            refine JL_q (wants_none rfl) rfl (ex_not rfl) ?_
            refine JL_q (wants_none rfl) rfl (ex_assign rfl) ?_
            refine JL_nil ?_
            refine N_then ?_
            refine J_if_false rfl h360 ?_
            refine J_skip ?_
            refine N_block ?_
            exact N_meet' () ⟨rfl, rfl, trivial⟩ [1, 2, 3] rfl rfl
        · refine N_then ?_
          refine J_seq ?_
          refine J_region ?_
          refine JL_st (wants_none rfl) rfl (st_buildSlice_od (vs := []) (B := ([] : List Nat)) ([] : List (List Int)) [] Try.underlying33 ti_23 zi_23 rfl rfl rfl rfl rfl (fun w hh => dwv_nil)) (fun b362 => ?_)
          refine JL_q (wants_none rfl) rfl (ex_assign rfl) ?_
          refine JL_nil ?_
          refine N_then ?_
          refine J_seq ?_
          refine J_loop' (S := Int × (List (List Int))) (G := Value × List Nat) (F_impl_DerivationOf_L5 s208) (fun s363 g364 => [(11, .pointer (some ⟨b7, 0, none⟩)), (12, .int .i64 s363.1), (14, g364.1)]) (fun s363 g364 => [.ow 102 g209 s208.1, mpf Value.string (Value.int .i64) b6 s208.2.1, .bx b7 98 [g209, .map (some b6), .bool s208.2.2.1], .od 23 g364.1 s363.2 g364.2]) (((mget s208.2.1 r356).getD 0), ([] : List (List Int))) ((.slice (some ⟨b362, 0, none⟩) 0 0), ([] : List Nat)) ⟨rfl, rfl, rfl, trivial⟩ [1, 2, 3, 0] rfl rfl (fun s363 g364 => ?_) (fun s363 g364 => ?_)
          · obtain ⟨g364_0, g364_1⟩ := g364
            unfold F_impl_DerivationOf_L5
            refine J_seq ?_
            refine J_seq ?_
            refine J_region ?_
            refine JL_q (wants_none rfl) rfl (ex_move rfl) ?_
            refine JL_q (wants_none rfl) rfl (ex_nilCheck rfl) ?_
            refine JL_q (wants_none rfl) rfl (ex_fieldAddr fi_98_0 rfl rfl) ?_
            refine JL_q (wants_none rfl) rfl (ex_load_bx 2 ti_95 rfl rfl rfl) ?_
            refine JL_q (wants_none rfl) rfl (ex_move rfl) ?_
            refine JL_bnd fun y365 hy366 => ?_
            refine JL_ow_open (v := g209) 0 rfl hy366 ?_; rintro b367 cap368 rfl
            refine JL_q (wants_none rfl) rfl (ex_index_ow 0 Try.underlying95 ti_102 rfl rfl rfl hy366) ?_
            refine JL_q (wants_none rfl) rfl (ex_fieldAddr fi_102_1 rfl rfl) ?_
            refine JL_q (wants_none rfl) rfl (ex_load_ow_part_int 0 (Gfound.at_parent _) rfl ti_3 rfl rfl hy366) ?_
            refine JL_q (wants_none rfl) rfl (ex_geq rfl rfl) ?_
            refine JL_nil ?_
            refine N_then ?_
            refine J_if rfl (fun h369 => ?_) (fun h369 => ?_)
            · refine J_skip ?_
              refine N_then ?_
              refine J_seq ?_
              refine J_block ?_
              refine J_draw [3] (by kernel_rfl) ?_
              refine JP_take (i := 0) [0, 1, 2] [3] rfl (by kernel_rfl) (by kernel_rfl) (by kernel_rfl) rfl rfl (wants_none rfl) rfl (ex_move rfl) ?_
              refine JP_take (i := 1) [0, 1, 2] [3] rfl (by kernel_rfl) (by kernel_rfl) (by kernel_rfl) rfl rfl (wants_none rfl) rfl (ex_move rfl) ?_
              refine JP_take (i := 2) [0, 1, 2] [3] rfl (by kernel_rfl) (by kernel_rfl) (by kernel_rfl) rfl rfl (wants_none rfl) rfl (ex_nilCheck rfl) ?_
              refine JP_take (i := 3) [0, 1, 2] [3] rfl (by kernel_rfl) (by kernel_rfl) (by kernel_rfl) rfl rfl (wants_none rfl) rfl (ex_fieldAddr fi_98_0 rfl rfl) ?_
              refine JP_take (i := 4) [0, 1, 2] [3] rfl (by kernel_rfl) (by kernel_rfl) (by kernel_rfl) rfl rfl (wants_none rfl) rfl (ex_load_bx 2 ti_95 rfl rfl rfl) ?_
              refine JP_take (i := 5) [0, 1, 2] [3] rfl (by kernel_rfl) (by kernel_rfl) (by kernel_rfl) rfl rfl (wants_none rfl) rfl (ex_move rfl) ?_
              refine JP_bnd fun y370 hy371 => ?_
              refine JP_take (i := 6) [0, 1, 2] [3] rfl (by kernel_rfl) (by kernel_rfl) (by kernel_rfl) rfl rfl (wants_none rfl) rfl (ex_index_ow 0 Try.underlying95 ti_102 rfl rfl rfl hy371) ?_
              refine JP_take (i := 7) [0, 1, 2] [3] rfl (by kernel_rfl) (by kernel_rfl) (by kernel_rfl) rfl rfl (wants_none rfl) rfl (ex_fieldAddr fi_102_0 rfl rfl) ?_
              refine JP_take (i := 8) [0, 1, 2] [3] rfl (by kernel_rfl) (by kernel_rfl) (by kernel_rfl) rfl rfl (wants_none rfl) rfl (ex_fieldAddr fi_100_0 rfl rfl) ?_
              refine JP_take (i := 9) [0, 1, 2] [3] rfl (by kernel_rfl) (by kernel_rfl) (by kernel_rfl) rfl rfl (wants_none rfl) rfl (ex_load_ow_part_int 0 (Part.trans (Gfound.at_move _) (Gmove.at_rule _)) rfl ti_2 rfl rfl hy371) ?_
              refine JP_take (i := 10) [0, 1, 2] [3] rfl (by kernel_rfl) (by kernel_rfl) (by kernel_rfl) rfl rfl (wants_none rfl) rfl (ex_move rfl) ?_
              refine JP_take (i := 11) [0, 1, 2] [3] rfl (by kernel_rfl) (by kernel_rfl) (by kernel_rfl) rfl rfl (wants_none rfl) rfl (ex_nilCheck rfl) ?_
              refine JP_take (i := 12) [0, 1, 2] [3] rfl (by kernel_rfl) (by kernel_rfl) (by kernel_rfl) rfl rfl (wants_none rfl) rfl (ex_fieldAddr fi_98_0 rfl rfl) ?_
              refine JP_take (i := 13) [0, 1, 2] [3] rfl (by kernel_rfl) (by kernel_rfl) (by kernel_rfl) rfl rfl (wants_none rfl) rfl (ex_load_bx 2 ti_95 rfl rfl rfl) ?_
              refine JP_take (i := 14) [0, 1, 2] [3] rfl (by kernel_rfl) (by kernel_rfl) (by kernel_rfl) rfl rfl (wants_none rfl) rfl (ex_move rfl) ?_
              refine JP_bnd fun y372 hy373 => ?_
              refine JP_take (i := 15) [0, 1, 2] [3] rfl (by kernel_rfl) (by kernel_rfl) (by kernel_rfl) rfl rfl (wants_none rfl) rfl (ex_index_ow 0 Try.underlying95 ti_102 rfl rfl rfl hy373) ?_
              refine JP_take (i := 16) [0, 1, 2] [3] rfl (by kernel_rfl) (by kernel_rfl) (by kernel_rfl) rfl rfl (wants_none rfl) rfl (ex_fieldAddr fi_102_0 rfl rfl) ?_
              refine JP_take (i := 17) [0, 1, 2] [3] rfl (by kernel_rfl) (by kernel_rfl) (by kernel_rfl) rfl rfl (wants_none rfl) rfl (ex_fieldAddr fi_100_1 rfl rfl) ?_
              refine JP_take (i := 18) [0, 1, 2] [3] rfl (by kernel_rfl) (by kernel_rfl) (by kernel_rfl) rfl rfl (wants_none rfl) rfl (ex_load_ow_part_int 0 (Part.trans (Gfound.at_move _) (Gmove.at_at_ _)) rfl ti_2 rfl rfl hy373) ?_
              refine JP_go [0, 1, 2] [3] rfl rfl rfl (fun w375 h1_376 hp374 => ?_)
              refine JD_one (i := 19) (by kernel_rfl) ?_
              refine JO_st rfl (wants_none rfl) rfl (st_buildSlice (vs := [.int .i64 ((⟨y370.move_rule, y370.move_at_, y370.move_word⟩ : Gmove).rule), .int .i64 ((⟨y372.move_rule, y372.move_at_, y372.move_word⟩ : Gmove).at_)]) ([(⟨y370.move_rule, y370.move_at_, y370.move_word⟩ : Gmove).rule, (⟨y372.move_rule, y372.move_at_, y372.move_word⟩ : Gmove).at_] : List Int) Try.underlying23 ti_2 zi_2 rfl rfl rfl (fun w hh => ⟨(Rd.mk_int _ _ _), (Rd.mk_int _ _ _), trivial⟩)) (fun _ hk => nomatch hk) (fun b377 => ?_)
              refine JD_one (i := 20) (by kernel_rfl) ?_
              refine JO_ctx (fun w hh => hh.tokf 0 rfl rfl) (tokf_owns (i := 0) rfl) ?_
              refine JO_st rfl (wants_none rfl) rfl (st_buildSlice_od (vs := [(.slice (some ⟨b377, 0, none⟩) 2 2)]) (B := ((((.slice (some ⟨b377, 0, none⟩) 2 2) : Value).ownBlock.toList ++ []) ++ [])) ([([(⟨y370.move_rule, y370.move_at_, y370.move_word⟩ : Gmove).rule, (⟨y372.move_rule, y372.move_at_, y372.move_word⟩ : Gmove).at_] : List Int)] : List (List Int)) [0] Try.underlying33 ti_23 zi_23 rfl rfl rfl rfl rfl (fun w hh => (dwv_cons (hh.dw 0 rfl) dwv_nil))) (fun _ hk => nomatch hk) (fun b378 => ?_)
              refine JD_bnd fun z379 hz380 => ?_
              refine JD_one (i := 21) (by kernel_rfl) ?_
              refine JO_st rfl (wants_none rfl) rfl (st_append_od 6 0 Try.underlying33 ti_23 zi_23 rfl bi_23 rfl rfl rfl rfl rfl rfl hz380) (sub_od 0 rfl) (fun v381 => ?_)
              refine JD_take (i := 22) hp374 rfl (by kernel_rfl) (by kernel_rfl) (by kernel_rfl) (wants_none rfl) rfl (ex_assign rfl) ?_
              refine JD_done (by kernel_rfl) ?_
              refine N_block ?_
              refine N_then ?_
              refine J_region ?_
              refine JL_q (wants_none rfl) rfl (ex_move rfl) ?_
              refine JL_q (wants_none rfl) rfl (ex_nilCheck rfl) ?_
              refine JL_q (wants_none rfl) rfl (ex_fieldAddr fi_98_0 rfl rfl) ?_
              refine JL_q (wants_none rfl) rfl (ex_load_bx 5 ti_95 rfl rfl rfl) ?_
              refine JL_q (wants_none rfl) rfl (ex_move rfl) ?_
              refine JL_bnd fun y382 hy383 => ?_
              refine JL_q (wants_none rfl) rfl (ex_index_ow 3 Try.underlying95 ti_102 rfl rfl rfl hy383) ?_
              refine JL_q (wants_none rfl) rfl (ex_fieldAddr fi_102_1 rfl rfl) ?_
              refine JL_q (wants_none rfl) rfl (ex_load_ow_part_int 3 (Gfound.at_parent _) rfl ti_3 rfl rfl hy383) ?_
              refine JL_q (wants_none rfl) rfl (ex_assign rfl) ?_
              refine JL_nil ?_
              exact N_next' (v381, (g364_1 ++ ((((.slice (some ⟨b377, 0, none⟩) 2 2) : Value).ownBlock.toList ++ []) ++ []))) ⟨rfl, rfl, rfl, trivial⟩ [3, 4, 5, 6] rfl rfl
            · refine J_exit ?_
              refine N_then_exit ?_
              exact N_break' (g364_0, g364_1) ⟨rfl, rfl, rfl, trivial⟩ [0, 1, 2, 3] rfl rfl
          · obtain ⟨g364_0, g364_1⟩ := g364
            refine N_then ?_
            refine J_seq ?_
            refine J_seq ?_
            refine J_region ?_
            refine JL_q (wants_none rfl) rfl (ex_move rfl) ?_
            refine JL_q (wants_none rfl) rfl (ex_od 3 rfl (ex_len_ow 3 Try.underlying33 rfl rfl)) ?_
            refine JL_q (wants_none rfl) rfl (ex_gtr rfl rfl) ?_
            refine JL_nil ?_
            refine N_then ?_
            refine J_if rfl (fun h384 => ?_) (fun h384 => ?_)
            · refine J_seq ?_
              refine J_region ?_
              refine JL_q (wants_none rfl) rfl (ex_assign rfl) ?_
              refine JL_q (wants_none rfl) rfl (ex_assign rfl) ?_
              refine JL_nil ?_
              refine N_then ?_
              refine J_ret ?_
              refine N_then_ret ?_
              refine N_ctx (fun w hh => SH.od_nil (α := (List Int)) 23 hh) ?_
              exact N_ret2 rfl (rv_tmp rfl) (rv_tmp rfl) (fun w hh => ⟨((.slice none 0 0 : Value), ([] : List Nat)), rfl, hh.sel [0] rfl⟩)
            · refine J_skip ?_
              refine N_then ?_
              refine J_seq ?_
              refine J_region ?_
              refine JL_q (wants_none rfl) rfl (ex_move rfl) ?_
              refine JL_bnd fun z385 hz386 => ?_
              refine JL_rev_od 3 rc_slices_Reverse_SSint64_Sint64 rfl (wants_none rfl) rfl Try.call60 rfl rfl hz386 ?_
              refine JL_nil ?_
              refine N_then ?_
              refine J_seq ?_
              refine J_region ?_
              refine JL_q (wants_none rfl) rfl (ex_move rfl) ?_
              refine JL_q (wants_none rfl) rfl (ex_assign rfl) ?_
              refine JL_q (wants_none rfl) rfl (ex_assign rfl) ?_
              refine JL_nil ?_
              refine N_then ?_
              refine J_ret ?_
              exact N_ret2 rfl (rv_tmp rfl) (rv_tmp rfl) (fun w hh => ⟨(g364_0, g364_1), rfl, hh.sel [3] rfl⟩)

end Go.Proofs.Ythmompdfapcgkaa
