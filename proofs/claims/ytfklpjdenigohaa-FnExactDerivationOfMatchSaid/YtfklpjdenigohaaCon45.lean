/-
  Each function of the program computes what its plain function says: printed by program. No condition.
-/
import Derived.Test.YtfklpjdenigohaaFn
import Derived.Test.YtfklpjdenigohaaInf
import Derived.Test.YtfklpjdenigohaaCon1
import Derived.Test.YtfklpjdenigohaaCon2
import Derived.Test.YtfklpjdenigohaaCon3
import Derived.Test.YtfklpjdenigohaaCon5
import Derived.Test.YtfklpjdenigohaaCon12
import Derived.Test.YtfklpjdenigohaaCon15
import Derived.Test.YtfklpjdenigohaaCon17
import Derived.Test.YtfklpjdenigohaaCon20
import Derived.Test.YtfklpjdenigohaaCon24
import Derived.Test.YtfklpjdenigohaaCon28
import Derived.Test.YtfklpjdenigohaaCon30
namespace Go.Proofs.Ytfklpjdenigohaa
open Go Go.Tc Go.Fn
set_option linter.unusedVariables false

set_option maxHeartbeats 4000000 in
theorem c_spec_DerivationOfMatch (A : Nat → Prop) (w : World) (hA : ∀ k, A k → k < w.heap.size) (v0_ : Value) (p0 : (List GRewrite)) (hp0 : Rd A w v0_ p0) (v1_ : Value) (p1 : (List Int)) (hp1 : Rd A w v1_ p1) (v2_ : Value) (p2 : (List Int)) (hp2 : Rd A w v2_ p2) (v3_ : Value) (p3 : (List Int)) (hp3 : Rd A w v3_ p3) (r : (List (List Int)) × Int) (hr : F_spec_DerivationOfMatch p0 p1 p2 p3 = some r) :
    Con Try.prog 59 [v0_, v1_, v2_, v3_] A w (fun x_ : Value × List Nat => .tuple #[x_.1, .int .i64 r.2]) (fun x_ => [.od 31 x_.1 r.1 x_.2]) := by
  refine Con_of (v := fun (r : (List (List Int)) × Int) (x_ : Value × List Nat) => .tuple #[x_.1, .int .i64 r.2]) (fs := fun r x_ => [.od 31 x_.1 r.1 x_.2]) Try.func59 rfl Try.ntmps59 rfl (((((SH.start hA).start_rd rfl hp0).start_rd rfl hp1).start_rd rfl hp2).start_rd rfl hp3) rfl ?_ hr
  unfold F_spec_DerivationOfMatch
  refine J_seq ?_
  refine J_region ?_
  refine JL_q (wants_none rfl) rfl (ex_assign rfl) ?_
  refine JL_q (wants_none rfl) rfl (ex_assign rfl) ?_
  refine JL_nil ?_
  refine N_then ?_
  refine J_seq ?_
  refine J_seq ?_
  refine J_region ?_
  refine JL_q (wants_none rfl) rfl (ex_move rfl) ?_
  refine JL_q (wants_none rfl) rfl (ex_move rfl) ?_
  refine JL_q (wants_none rfl) rfl (ex_move rfl) ?_
  refine JL_bnd fun r1 hr2 => ?_
  refine JL_call (wants_none rfl) rfl Try.call87 rfl (Ca_of0 fun w hh => c_spec_l32Ready _ w (fun _ hk => hk.elim) _ _ (hh.rd0 3 rfl) _ _ (hh.rd0 2 rfl) _ _ (hh.rd0 1 rfl) _ hr2) (fun _ => ?_)
  refine JL_q (wants_none rfl) rfl (ex_not rfl) ?_
  refine JL_nil ?_
  refine N_then ?_
  refine J_if rfl (fun h3 => ?_) (fun h3 => ?_)
  · refine J_seq ?_
    refine J_region ?_
    refine JL_q (wants_none rfl) rfl (ex_assign rfl) ?_
    refine JL_q (wants_none rfl) rfl (ex_assign rfl) ?_
    refine JL_nil ?_
    refine N_then ?_
    refine J_ret ?_
    refine N_then_ret ?_
    refine N_ctx (fun w hh => SH.od_nil (α := (List Int)) 31 hh) ?_
    exact N_ret2 rfl (rv_tmp rfl) (rv_tmp rfl) (fun w hh => ⟨((.slice none 0 0 : Value), ([] : List Nat)), rfl, hh.sel [0] rfl⟩)
  · refine J_skip ?_
    refine N_then ?_
    refine J_seq ?_
    refine J_region ?_
    refine JL_q (wants_none rfl) rfl (ex_move rfl) ?_
    refine JL_q (wants_none rfl) rfl (ex_move rfl) ?_
    refine JL_q (wants_none rfl) rfl (ex_move rfl) ?_
    refine JL_bnd fun r4 hr5 => ?_
    refine JL_call (wants_none rfl) rfl Try.call88 rfl (Ca_self (fun _ => rfl) fun w hh => c_spec_l32Rules _ w (fun _ hk => hk.elim) _ _ (hh.rd0 3 rfl) _ _ (hh.rd0 2 rfl) _ _ (hh.rd0 1 rfl) _ hr5) (fun x6 => ?_)
    obtain ⟨x6_0, x6_1⟩ := x6
    refine JL_q (wants_none rfl) rfl (ex_move rfl) ?_
    refine JL_q (wants_none rfl) rfl (ex_extract rfl rfl) ?_
    refine JL_q (wants_none rfl) rfl (ex_extract rfl rfl) ?_
    refine JL_q (wants_none rfl) rfl (ex_assign rfl) ?_
    refine JL_q (wants_none rfl) rfl (ex_assign rfl) ?_
    refine JL_nil ?_
    refine N_then ?_
    refine J_seq ?_
    refine J_seq ?_
    refine J_region ?_
    refine JL_q (wants_none rfl) rfl (ex_move rfl) ?_
    refine JL_q (wants_none rfl) rfl (ex_neq rfl rfl) ?_
    refine JL_nil ?_
    refine N_then ?_
    refine J_if rfl (fun h7 => ?_) (fun h7 => ?_)
    · refine J_seq ?_
      refine J_region ?_
      refine JL_q (wants_none rfl) rfl (ex_move rfl) ?_
      refine JL_q (wants_none rfl) rfl (ex_assign rfl) ?_
      refine JL_q (wants_none rfl) rfl (ex_assign rfl) ?_
      refine JL_nil ?_
      refine N_then ?_
      refine J_ret ?_
      refine N_then_ret ?_
      refine N_ctx (fun w hh => SH.od_nil (α := (List Int)) 31 hh) ?_
      exact N_ret2 rfl (rv_tmp rfl) (rv_tmp rfl) (fun w hh => ⟨((.slice none 0 0 : Value), ([] : List Nat)), rfl, hh.sel [0] rfl⟩)
    · refine J_skip ?_
      refine N_then ?_
      refine J_seq ?_
      refine J_region ?_
      refine JL_q (wants_none rfl) rfl (ex_move rfl) ?_
      refine JL_q (wants_none rfl) rfl (ex_move rfl) ?_
      refine JL_bnd fun r8 hr9 => ?_
      refine JL_call (wants_none rfl) rfl Try.call111 rfl (Ca_self (fun _ => rfl) fun w hh => c_spec_l32Match _ w (fun _ hk => hk.elim) _ _ (hh.od0 0 rfl) _ _ (hh.rd0 1 rfl) _ hr9) (fun x10 => ?_)
      refine JL_q (wants_none rfl) rfl (ex_move rfl) ?_
      refine JL_q (wants_none rfl) rfl (ex_extract rfl rfl) ?_
      refine JL_q (wants_none rfl) rfl (ex_extract rfl rfl) ?_
      refine JL_q (wants_none rfl) rfl (ex_assign rfl) ?_
      refine JL_q (wants_none rfl) rfl (ex_assign rfl) ?_
      refine JL_nil ?_
      refine N_then ?_
      refine J_seq ?_
      refine J_seq ?_
      refine J_region ?_
      refine JL_q (wants_none rfl) rfl (ex_move rfl) ?_
      refine JL_q (wants_none rfl) rfl (ex_neq rfl rfl) ?_
      refine JL_nil ?_
      refine N_then ?_
      refine J_if rfl (fun h11 => ?_) (fun h11 => ?_)
      · refine J_seq ?_
        refine J_region ?_
        refine JL_q (wants_none rfl) rfl (ex_move rfl) ?_
        refine JL_q (wants_none rfl) rfl (ex_assign rfl) ?_
        refine JL_q (wants_none rfl) rfl (ex_assign rfl) ?_
        refine JL_nil ?_
        refine N_then ?_
        refine J_ret ?_
        refine N_then_ret ?_
        refine N_ctx (fun w hh => SH.od_nil (α := (List Int)) 31 hh) ?_
        exact N_ret2 rfl (rv_tmp rfl) (rv_tmp rfl) (fun w hh => ⟨((.slice none 0 0 : Value), ([] : List Nat)), rfl, hh.sel [0] rfl⟩)
      · refine J_skip ?_
        refine N_then ?_
        refine J_seq ?_
        refine J_seq ?_
        refine J_region ?_
        refine JL_q (wants_none rfl) rfl (ex_move rfl) ?_
        refine JL_bnd fun y12 hy13 => ?_
        refine JL_st (wants_none rfl) rfl (st_index 2 Try.underlying31 ti_2 rfl rfl rfl hy13) (fun q14 => ?_)
        refine JL_st (wants_none rfl) rfl (st_load_pt_o 0 (opens_int _) ti_2 rfl rfl) (fun _ => ?_)
        refine JL_q (wants_none rfl) rfl (ex_neq rfl rfl) ?_
        refine JL_nil ?_
        refine N_then ?_
        refine J_if rfl (fun h16 => ?_) (fun h16 => ?_)
        · refine J_seq ?_
          refine J_region ?_
          refine JL_q (wants_none rfl) rfl (ex_assign rfl) ?_
          refine JL_q (wants_none rfl) rfl (ex_assign rfl) ?_
          refine JL_nil ?_
          refine N_then ?_
          refine J_ret ?_
          refine N_then_ret ?_
          refine N_ctx (fun w hh => SH.od_nil (α := (List Int)) 31 hh) ?_
          exact N_ret2 rfl (rv_tmp rfl) (rv_tmp rfl) (fun w hh => ⟨((.slice none 0 0 : Value), ([] : List Nat)), rfl, hh.sel [0] rfl⟩)
        · refine J_skip ?_
          refine N_then ?_
          refine J_seq ?_
          refine J_region ?_
          refine JL_st (wants_none rfl) rfl (st_buildSlice_od (vs := []) (B := ([] : List Nat)) ([] : List (List Int)) [] Try.underlying22 ti_31 zi_31 rfl rfl rfl rfl rfl (fun w hh => dwv_nil)) (fun b17 => ?_)
          refine JL_q (wants_none rfl) rfl (ex_assign rfl) ?_
          refine JL_nil ?_
          refine N_then ?_
          refine J_seq ?_
          refine J_region ?_
          refine JL_q (wants_none rfl) rfl (ex_assign rfl) ?_
          refine JL_nil ?_
          refine N_then ?_
          refine J_seq ?_
          refine J_seq ?_
          refine J_region ?_
          refine JL_q (wants_none rfl) rfl (ex_assign rfl) ?_
          refine JL_nil ?_
          refine N_then ?_
          refine J_ctx (fun w hh => hh.tok 3 rfl) ?_
          refine J_loop' (S := (List (List Int)) × Int × Int) (G := Value × List Nat) (F_spec_DerivationOfMatch_L1 p3 r4) (fun s18 g19 => [(3, v3_), (10, x6_0), (14, g19.1), (15, .int .i64 s18.2.1), (16, .int .i64 s18.2.2)]) (fun s18 g19 => [.rd v3_ p3, .rd x6_0 r4.1, .tkn x6_0 r4.1 ((x6_0 : Value).ownBlock.toList ++ x6_1), .od 31 g19.1 s18.1 g19.2]) (([] : List (List Int)), 0, 1) ((.slice (some ⟨b17, 0, none⟩) 0 0), ([] : List Nat)) ⟨rfl, rfl, rfl, rfl, rfl, trivial⟩ [5, 4, 0, 1] rfl rfl (fun s18 g19 => ?_) (fun s18 g19 => ?_)
          · obtain ⟨g19_0, g19_1⟩ := g19
            unfold F_spec_DerivationOfMatch_L1
            refine J_seq ?_
            refine J_seq ?_
            refine J_region ?_
            refine JL_q (wants_none rfl) rfl (ex_move rfl) ?_
            refine JL_q (wants_none rfl) rfl (ex_move rfl) ?_
            refine JL_q (wants_none rfl) rfl (ex_len_rd 0 Try.underlying31 rfl rfl) ?_
            refine JL_q (wants_none rfl) rfl (ex_lss rfl rfl) ?_
            refine JL_q (wants_none rfl) rfl (ex_move rfl) ?_
            refine JL_cond (fun h20 => ?_) (fun h20 => ?_)
            · refine JL_q (wants_some rfl rfl rfl h20) rfl (ex_move rfl) ?_
              refine JL_q (wants_some rfl rfl rfl h20) rfl (ex_move rfl) ?_
              refine JL_bnd fun y21 hy22 => ?_
              refine JL_st (wants_some rfl rfl rfl h20) rfl (st_index 0 Try.underlying31 ti_2 rfl rfl rfl hy22) (fun q23 => ?_)
              refine JL_st (wants_some rfl rfl rfl h20) rfl (st_load_pt_o 0 (opens_int _) ti_2 rfl rfl) (fun _ => ?_)
              refine JL_q (wants_some rfl rfl rfl h20) rfl (ex_move rfl) ?_
              refine JL_q (wants_some rfl rfl rfl h20) rfl (ex_len_rd 2 Try.underlying51 rfl rfl) ?_
              refine JL_q (wants_some rfl rfl rfl h20) rfl (ex_sub rfl rfl) ?_
              refine JL_q (wants_some rfl rfl rfl h20) rfl (ex_neq rfl rfl) ?_
              refine JL_q (wants_none rfl) rfl (ex_pick_true rfl h20 rfl) ?_
              refine JL_nil ?_
              refine N_then ?_
              refine J_if rfl (fun h25 => ?_) (fun h25 => ?_)
              · refine J_skip ?_
                refine N_then ?_
                refine J_seq ?_
                refine J_block ?_
                refine J_seq ?_
                refine J_seq ?_
                refine J_region ?_
                refine JL_q (wants_none rfl) rfl (ex_move rfl) ?_
                refine JL_q (wants_none rfl) rfl (ex_move rfl) ?_
                refine JL_bnd fun y26 hy27 => ?_
                refine JL_st (wants_none rfl) rfl (st_index 1 Try.underlying31 ti_2 rfl rfl rfl hy27) (fun q28 => ?_)
                refine JL_st (wants_none rfl) rfl (st_load_pt_o 0 (opens_int _) ti_2 rfl rfl) (fun _ => ?_)
                refine JL_q (wants_none rfl) rfl (ex_eql rfl rfl) ?_
                refine JL_q (wants_none rfl) rfl (ex_move rfl) ?_
                refine JL_cond (fun h30 => ?_) (fun h30 => ?_)
                · refine JL_passed rfl rfl rfl h30 ?_
                  refine JL_passed rfl rfl rfl h30 ?_
                  refine JL_passed rfl rfl rfl h30 ?_
                  refine JL_passed rfl rfl rfl h30 ?_
                  refine JL_passed rfl rfl rfl h30 ?_
                  refine JL_q (wants_none rfl) rfl (ex_pick_true rfl h30 rfl) ?_
                  refine JL_nil ?_
                  refine N_then ?_
                  refine J_if_true rfl rfl ?_
                  refine J_seq ?_
                  refine J_region ?_
                  refine JL_q (wants_none rfl) rfl (ex_assign rfl) ?_
                  refine JL_nil ?_
                  refine N_then ?_
                  refine J_exit ?_
                  refine N_then_exit ?_
                  refine N_block_exit ?_
                  refine N_then ?_
                  refine J_region ?_
                  refine JL_q (wants_none rfl) rfl (ex_move rfl) ?_
                  refine JL_q (wants_none rfl) rfl (ex_add rfl rfl) ?_
                  refine JL_q (wants_none rfl) rfl (ex_assign rfl) ?_
                  refine JL_nil ?_
                  exact N_next' (g19_0, g19_1) ⟨rfl, rfl, rfl, rfl, rfl, trivial⟩ [2, 3, 4, 5] rfl rfl
                · refine JL_q (wants_some rfl rfl rfl h30) rfl (ex_move rfl) ?_
                  refine JL_q (wants_some rfl rfl rfl h30) rfl (ex_move rfl) ?_
                  refine JL_bnd fun y31 hy32 => ?_
                  refine JL_st (wants_some rfl rfl rfl h30) rfl (st_index 2 Try.underlying31 ti_2 rfl rfl rfl hy32) (fun q33 => ?_)
                  refine JL_st (wants_some rfl rfl rfl h30) rfl (st_load_pt_o 0 (opens_int _) ti_2 rfl rfl) (fun _ => ?_)
                  refine JL_q (wants_some rfl rfl rfl h30) rfl (ex_eql rfl rfl) ?_
                  refine JL_q (wants_none rfl) rfl (ex_pick_false rfl h30 rfl) ?_
                  refine JL_nil ?_
                  refine N_then ?_
                  refine J_if rfl (fun h35 => ?_) (fun h35 => ?_)
                  · refine J_seq ?_
                    refine J_region ?_
                    refine JL_q (wants_none rfl) rfl (ex_assign rfl) ?_
                    refine JL_nil ?_
                    refine N_then ?_
                    refine J_exit ?_
                    refine N_then_exit ?_
                    refine N_block_exit ?_
                    refine N_then ?_
                    refine J_region ?_
                    refine JL_q (wants_none rfl) rfl (ex_move rfl) ?_
                    refine JL_q (wants_none rfl) rfl (ex_add rfl rfl) ?_
                    refine JL_q (wants_none rfl) rfl (ex_assign rfl) ?_
                    refine JL_nil ?_
                    exact N_next' (g19_0, g19_1) ⟨rfl, rfl, rfl, rfl, rfl, trivial⟩ [3, 4, 5, 6] rfl rfl
                  · refine J_skip ?_
                    refine N_then ?_
                    refine J_seq ?_
                    refine J_cut' (S' := (List (List Int))) (G' := Value × List Nat) (fun s36 g37 => [(3, v3_), (10, x6_0), (14, g37.1), (15, .int .i64 s18.2.1), (16, .int .i64 s18.2.2)]) (fun s36 g37 => [.rd v3_ p3, .rd x6_0 r4.1, .tkn x6_0 r4.1 ((x6_0 : Value).ownBlock.toList ++ x6_1), .od 31 g37.1 s36 g37.2]) ?_ (fun s36 g37 => ?_)
                    · refine J_seq ?_
                      refine J_region ?_
                      refine JL_q (wants_none rfl) rfl (ex_move rfl) ?_
                      refine JL_q (wants_none rfl) rfl (ex_move rfl) ?_
                      refine JL_bnd fun y38 hy39 => ?_
                      refine JL_st (wants_none rfl) rfl (st_index 3 Try.underlying31 ti_2 rfl rfl rfl hy39) (fun q40 => ?_)
                      refine JL_st (wants_none rfl) rfl (st_load_pt_o 0 (opens_int _) ti_2 rfl rfl) (fun _ => ?_)
                      refine JL_q (wants_none rfl) rfl (ex_geq rfl rfl) ?_
                      refine JL_nil ?_
                      refine N_then ?_
                      refine J_if rfl (fun h42 => ?_) (fun h42 => ?_)
                      · refine J_region ?_
                        refine JL_q (wants_none rfl) rfl (ex_move rfl) ?_
                        refine JL_q (wants_none rfl) rfl (ex_move rfl) ?_
                        refine JL_q (wants_none rfl) rfl (ex_move rfl) ?_
                        refine JL_bnd fun y43 hy44 => ?_
                        refine JL_st (wants_none rfl) rfl (st_index 4 Try.underlying31 ti_2 rfl rfl rfl hy44) (fun q45 => ?_)
                        refine JL_st (wants_none rfl) rfl (st_load_pt_o 0 (opens_int _) ti_2 rfl rfl) (fun _ => ?_)
                        refine JL_q (wants_none rfl) rfl (ex_sub rfl rfl) ?_
                        refine JL_q (wants_none rfl) rfl (ex_move rfl) ?_
                        refine JL_st (wants_none rfl) rfl (st_buildSlice (vs := [.int .i64 (w64 (y43 - 8)), .int .i64 s18.2.1]) ([(w64 (y43 - 8)), s18.2.1] : List Int) Try.underlying31 ti_2 zi_2 rfl rfl rfl (fun w hh => ⟨(Rd.mk_int _ _ _), (Rd.mk_int _ _ _), trivial⟩)) (fun b47 => ?_)
                        refine JL_ctx (fun w hh => hh.tokf 0 rfl rfl) ?_
                        refine JL_st (wants_none rfl) rfl (st_buildSlice_od (vs := [(.slice (some ⟨b47, 0, none⟩) 2 2)]) (B := ((((.slice (some ⟨b47, 0, none⟩) 2 2) : Value).ownBlock.toList ++ []) ++ [])) ([([(w64 (y43 - 8)), s18.2.1] : List Int)] : List (List Int)) [0] Try.underlying22 ti_31 zi_31 rfl rfl rfl rfl rfl (fun w hh => (dwv_cons (hh.dw 0 rfl) dwv_nil))) (fun b48 => ?_)
                        refine JL_bnd fun z49 hz50 => ?_
                        refine JL_st (wants_none rfl) rfl (st_append_od 11 0 Try.underlying22 ti_31 zi_31 rfl bi_31 rfl rfl rfl rfl rfl rfl hz50) (fun v51 => ?_)
                        refine JL_q (wants_none rfl) rfl (ex_assign rfl) ?_
                        refine JL_nil ?_
                        exact N_meet' (v51, (g19_1 ++ ((((.slice (some ⟨b47, 0, none⟩) 2 2) : Value).ownBlock.toList ++ []) ++ []))) ⟨rfl, rfl, rfl, rfl, rfl, trivial⟩ [8, 9, 10, 11] rfl rfl
                      · refine J_skip ?_
                        exact N_meet' (g19_0, g19_1) ⟨rfl, rfl, rfl, rfl, rfl, trivial⟩ [4, 5, 6, 7] rfl rfl
                    · obtain ⟨g37_0, g37_1⟩ := g37
                      refine N_then ?_
                      refine J_region ?_
                      refine JL_q (wants_none rfl) rfl (ex_move rfl) ?_
                      refine JL_q (wants_none rfl) rfl (ex_move rfl) ?_
                      refine JL_q (wants_none rfl) rfl (ex_move rfl) ?_
                      refine JL_q (wants_none rfl) rfl (ex_move rfl) ?_
                      refine JL_bnd fun y52 hy53 => ?_
                      refine JL_st (wants_none rfl) rfl (st_index 0 Try.underlying31 ti_2 rfl rfl rfl hy53) (fun q54 => ?_)
                      refine JL_st (wants_none rfl) rfl (st_load_pt_o 0 (opens_int _) ti_2 rfl rfl) (fun _ => ?_)
                      refine JL_bnd fun y56 hy57 => ?_
                      refine JL_st (wants_none rfl) rfl (st_index 2 Try.underlying51 ti_113 rfl rfl rfl hy57) (fun q58 => ?_)
                      refine JL_st (wants_none rfl) rfl (st_field_pt 0 (GDomino.at_Bottom _) fi_113_1 rfl rfl rfl) (fun q59 => ?_)
                      refine JL_st (wants_none rfl) rfl (st_load_pt_o 0 (opens_sl _) ti_31 rfl rfl) (fun v60 => ?_)
                      refine JL_q (wants_none rfl) rfl (ex_len_rd 0 Try.underlying31 rfl rfl) ?_
                      refine JL_q (wants_none rfl) rfl (ex_add rfl rfl) ?_
                      refine JL_q (wants_none rfl) rfl (ex_assign rfl) ?_
                      refine JL_nil ?_
                      refine N_block ?_
                      refine N_then ?_
                      refine J_region ?_
                      refine JL_q (wants_none rfl) rfl (ex_move rfl) ?_
                      refine JL_q (wants_none rfl) rfl (ex_add rfl rfl) ?_
                      refine JL_q (wants_none rfl) rfl (ex_assign rfl) ?_
                      refine JL_nil ?_
                      exact N_next' (g37_0, g37_1) ⟨rfl, rfl, rfl, rfl, rfl, trivial⟩ [4, 5, 6, 7] rfl rfl
              · refine J_exit ?_
                refine N_then_exit ?_
                exact N_break' (g19_0, g19_1) ⟨rfl, rfl, rfl, rfl, rfl, trivial⟩ [1, 2, 3, 4] rfl rfl
            · refine JL_passed rfl rfl rfl h20 ?_
              refine JL_passed rfl rfl rfl h20 ?_
              refine JL_passed rfl rfl rfl h20 ?_
              refine JL_passed rfl rfl rfl h20 ?_
              refine JL_passed rfl rfl rfl h20 ?_
              refine JL_passed rfl rfl rfl h20 ?_
              refine JL_passed rfl rfl rfl h20 ?_
              refine JL_passed rfl rfl rfl h20 ?_
              refine JL_q (wants_none rfl) rfl (ex_pick_false rfl h20 rfl) ?_
              refine JL_nil ?_
              refine N_then ?_
              refine J_if_false rfl rfl ?_
              refine J_exit ?_
              refine N_then_exit ?_
              exact N_break' (g19_0, g19_1) ⟨rfl, rfl, rfl, rfl, rfl, trivial⟩ [0, 1, 2, 3] rfl rfl
          · obtain ⟨g19_0, g19_1⟩ := g19
            refine N_then ?_
            refine J_seq ?_
            refine J_seq ?_
            refine J_region ?_
            refine JL_q (wants_none rfl) rfl (ex_move rfl) ?_
            refine JL_q (wants_none rfl) rfl (ex_od 3 rfl (ex_len_ow 3 Try.underlying22 rfl rfl)) ?_
            refine JL_q (wants_none rfl) rfl (ex_gtr rfl rfl) ?_
            refine JL_nil ?_
            refine N_then ?_
            refine J_if rfl (fun h61 => ?_) (fun h61 => ?_)
            · refine J_seq ?_
              refine J_region ?_
              refine JL_q (wants_none rfl) rfl (ex_assign rfl) ?_
              refine JL_q (wants_none rfl) rfl (ex_assign rfl) ?_
              refine JL_nil ?_
              refine N_then ?_
              refine J_ret ?_
              refine N_then_ret ?_
              refine N_ctx (fun w hh => SH.od_nil (α := (List Int)) 31 hh) ?_
              exact N_ret2 rfl (rv_tmp rfl) (rv_tmp rfl) (fun w hh => ⟨((.slice none 0 0 : Value), ([] : List Nat)), rfl, hh.sel [0] rfl⟩)
            · refine J_skip ?_
              refine N_then ?_
              refine J_seq ?_
              refine J_region ?_
              refine JL_q (wants_none rfl) rfl (ex_move rfl) ?_
              refine JL_q (wants_none rfl) rfl (ex_assign rfl) ?_
              refine JL_q (wants_none rfl) rfl (ex_assign rfl) ?_
              refine JL_nil ?_
              refine N_then ?_
              refine J_ret ?_
              exact N_ret2 rfl (rv_tmp rfl) (rv_tmp rfl) (fun w hh => ⟨(g19_0, g19_1), rfl, hh.sel [3] rfl⟩)

set_option maxHeartbeats 4000000 in
theorem c_impl_shortDerivation (A : Nat → Prop) (w : World) (hA : ∀ k, A k → k < w.heap.size) (v0_ : Value) (p0 : (List (List Int))) (hp0 : Rd A w v0_ p0) (r : (List (List Int)) × Int) (hr : F_impl_shortDerivation p0 = some r) :
    Con Try.prog 120 [v0_] A w (fun x_ : Value => .tuple #[x_, .int .i64 r.2]) (fun x_ => [.pr (Sub v0_ p0 x_ r.1)]) := by
  refine Con_of (v := fun (r : (List (List Int)) × Int) (x_ : Value) => .tuple #[x_, .int .i64 r.2]) (fs := fun r x_ => [.pr (Sub v0_ p0 x_ r.1)]) Try.func120 rfl Try.ntmps120 rfl ((SH.start hA).start_rd rfl hp0) rfl ?_ hr
  unfold F_impl_shortDerivation
  refine J_seq ?_
  refine J_region ?_
  refine JL_q (wants_none rfl) rfl (ex_assign rfl) ?_
  refine JL_q (wants_none rfl) rfl (ex_assign rfl) ?_
  refine JL_nil ?_
  refine N_then ?_
  refine J_seq ?_
  refine J_seq ?_
  refine J_region ?_
  refine JL_q (wants_none rfl) rfl (ex_move rfl) ?_
  refine JL_q (wants_none rfl) rfl (ex_len_rd 0 Try.underlying22 rfl rfl) ?_
  refine JL_q (wants_none rfl) rfl (ex_gtr rfl rfl) ?_
  refine JL_nil ?_
  refine N_then ?_
  refine J_if rfl (fun h1 => ?_) (fun h1 => ?_)
  · refine J_seq ?_
    refine J_region ?_
    refine JL_q (wants_none rfl) rfl (ex_assign rfl) ?_
    refine JL_q (wants_none rfl) rfl (ex_assign rfl) ?_
    refine JL_nil ?_
    refine N_then ?_
    refine J_ret ?_
    refine N_then_ret ?_
    refine N_ctx (fun w hh => hh.cons_pr (p := Sub v0_ p0 (.slice none 0 0) ([] : (List (List Int)))) Sub.nil) ?_
    exact N_ret2 rfl (rv_tmp rfl) (rv_tmp rfl) (fun w hh => ⟨(.slice none 0 0 : Value), rfl, hh.sel [0] rfl⟩)
  · refine J_skip ?_
    refine N_then ?_
    refine J_seq ?_
    refine J_region ?_
    refine JL_q (wants_none rfl) rfl (ex_move rfl) ?_
    refine JL_q (wants_none rfl) rfl (ex_assign rfl) ?_
    refine JL_q (wants_none rfl) rfl (ex_assign rfl) ?_
    refine JL_nil ?_
    refine N_then ?_
    refine J_ret ?_
    refine N_ctx (fun w hh => hh.cons_pr (p := Sub v0_ p0 v0_ p0) Sub.refl) ?_
    exact N_ret2 rfl (rv_tmp rfl) (rv_tmp rfl) (fun w hh => ⟨v0_, rfl, hh.sel [0] rfl⟩)

set_option maxHeartbeats 4000000 in
theorem c_impl_DerivationOfMatch (A : Nat → Prop) (w : World) (hA : ∀ k, A k → k < w.heap.size) (v0_ : Value) (p0 : (List GRewrite)) (hp0 : Rd A w v0_ p0) (v1_ : Value) (p1 : (List Int)) (hp1 : Rd A w v1_ p1) (v2_ : Value) (p2 : (List Int)) (hp2 : Rd A w v2_ p2) (v3_ : Value) (p3 : (List Int)) (hp3 : Rd A w v3_ p3) (r : (List (List Int)) × Int) (hr : F_impl_DerivationOfMatch p0 p1 p2 p3 = some r) :
    Con Try.prog 60 [v0_, v1_, v2_, v3_] A w (fun x_ : Value × List Nat => .tuple #[x_.1, .int .i64 r.2]) (fun x_ => [.tkn x_.1 r.1 x_.2]) := by
  refine Con_of (v := fun (r : (List (List Int)) × Int) (x_ : Value × List Nat) => .tuple #[x_.1, .int .i64 r.2]) (fs := fun r x_ => [.tkn x_.1 r.1 x_.2]) Try.func60 rfl Try.ntmps60 rfl (((((SH.start hA).start_rd rfl hp0).start_rd rfl hp1).start_rd rfl hp2).start_rd rfl hp3) rfl ?_ hr
  unfold F_impl_DerivationOfMatch
  refine J_seq ?_
  refine J_region ?_
  refine JL_q (wants_none rfl) rfl (ex_assign rfl) ?_
  refine JL_q (wants_none rfl) rfl (ex_assign rfl) ?_
  refine JL_nil ?_
  refine N_then ?_
  refine J_seq ?_
  refine J_region ?_
  refine JL_q (wants_none rfl) rfl (ex_move rfl) ?_
  refine JL_q (wants_none rfl) rfl (ex_move rfl) ?_
  refine JL_q (wants_none rfl) rfl (ex_move rfl) ?_
  refine JL_bnd fun r1 hr2 => ?_
  refine JL_call (wants_none rfl) rfl Try.call37 rfl (Ca_self (fun _ => rfl) fun w hh => c_impl_RewritesToDominoes _ w (fun _ hk => hk.elim) _ _ (hh.rd0 3 rfl) _ _ (hh.rd0 2 rfl) _ _ (hh.rd0 1 rfl) _ hr2) (fun x3 => ?_)
  obtain ⟨x3_0, x3_1⟩ := x3
  refine JL_q (wants_none rfl) rfl (ex_move rfl) ?_
  refine JL_q (wants_none rfl) rfl (ex_extract rfl rfl) ?_
  refine JL_q (wants_none rfl) rfl (ex_extract rfl rfl) ?_
  refine JL_q (wants_none rfl) rfl (ex_assign rfl) ?_
  refine JL_q (wants_none rfl) rfl (ex_assign rfl) ?_
  refine JL_nil ?_
  refine N_then ?_
  refine J_seq ?_
  refine J_seq ?_
  refine J_region ?_
  refine JL_q (wants_none rfl) rfl (ex_move rfl) ?_
  refine JL_q (wants_none rfl) rfl (ex_neq rfl rfl) ?_
  refine JL_nil ?_
  refine N_then ?_
  refine J_if rfl (fun h4 => ?_) (fun h4 => ?_)
  · refine J_seq ?_
    refine J_region ?_
    refine JL_q (wants_none rfl) rfl (ex_move rfl) ?_
    refine JL_q (wants_none rfl) rfl (ex_assign rfl) ?_
    refine JL_q (wants_none rfl) rfl (ex_assign rfl) ?_
    refine JL_nil ?_
    refine N_then ?_
    refine J_ret ?_
    refine N_then_ret ?_
    refine N_ctx (fun w hh => SH.od_nil (α := (List Int)) 31 hh) ?_
    refine N_ctx (fun w hh => hh.tok 0 rfl) ?_
    exact N_ret2 rfl (rv_tmp rfl) (rv_tmp rfl) (fun w hh => ⟨((.slice none 0 0 : Value), ((.slice none 0 0 : Value).ownBlock.toList ++ [])), rfl, hh.sel [0] rfl⟩)
  · refine J_skip ?_
    refine N_then ?_
    refine J_seq ?_
    refine J_seq ?_
    refine J_region ?_
    refine JL_q (wants_none rfl) rfl (ex_move rfl) ?_
    refine JL_q (wants_none rfl) rfl (ex_move rfl) ?_
    refine JL_bnd fun r5 hr6 => ?_
    refine JL_call (wants_none rfl) rfl Try.call114 rfl (Ca_self (fun _ => rfl) fun w hh => c_impl_matchWord _ w (fun _ hk => hk.elim) _ _ (hh.od0 0 rfl) _ _ (hh.rd0 1 rfl) _ hr6) (fun x7 => ?_)
    refine JL_q (wants_none rfl) rfl (ex_move rfl) ?_
    refine JL_q (wants_none rfl) rfl (ex_extract rfl rfl) ?_
    refine JL_q (wants_none rfl) rfl (ex_extract rfl rfl) ?_
    refine JL_q (wants_none rfl) rfl (ex_assign rfl) ?_
    refine JL_q (wants_none rfl) rfl (ex_assign rfl) ?_
    refine JL_nil ?_
    refine N_then ?_
    refine J_seq ?_
    refine J_region ?_
    refine JL_q (wants_none rfl) rfl (ex_move rfl) ?_
    refine JL_q (wants_none rfl) rfl (ex_neq rfl rfl) ?_
    refine JL_nil ?_
    refine N_then ?_
    refine J_if rfl (fun h8 => ?_) (fun h8 => ?_)
    · refine J_seq ?_
      refine J_region ?_
      refine JL_q (wants_none rfl) rfl (ex_move rfl) ?_
      refine JL_q (wants_none rfl) rfl (ex_assign rfl) ?_
      refine JL_q (wants_none rfl) rfl (ex_assign rfl) ?_
      refine JL_nil ?_
      refine N_then ?_
      refine J_ret ?_
      refine N_then_ret ?_
      refine N_ctx (fun w hh => SH.od_nil (α := (List Int)) 31 hh) ?_
      refine N_ctx (fun w hh => hh.tok 0 rfl) ?_
      exact N_ret2 rfl (rv_tmp rfl) (rv_tmp rfl) (fun w hh => ⟨((.slice none 0 0 : Value), ((.slice none 0 0 : Value).ownBlock.toList ++ [])), rfl, hh.sel [0] rfl⟩)
    · refine J_skip ?_
      refine N_then ?_
      refine J_seq ?_
      refine J_seq ?_
      refine J_region ?_
      refine JL_q (wants_none rfl) rfl (ex_move rfl) ?_
      refine JL_bnd fun y9 hy10 => ?_
      refine JL_st (wants_none rfl) rfl (st_index 2 Try.underlying31 ti_2 rfl rfl rfl hy10) (fun q11 => ?_)
      refine JL_st (wants_none rfl) rfl (st_load_pt_o 0 (opens_int _) ti_2 rfl rfl) (fun _ => ?_)
      refine JL_q (wants_none rfl) rfl (ex_neq rfl rfl) ?_
      refine JL_nil ?_
      refine N_then ?_
      refine J_if rfl (fun h13 => ?_) (fun h13 => ?_)
      · refine J_seq ?_
        refine J_region ?_
        refine JL_q (wants_none rfl) rfl (ex_assign rfl) ?_
        refine JL_q (wants_none rfl) rfl (ex_assign rfl) ?_
        refine JL_nil ?_
        refine N_then ?_
        refine J_ret ?_
        refine N_then_ret ?_
        refine N_ctx (fun w hh => SH.od_nil (α := (List Int)) 31 hh) ?_
        refine N_ctx (fun w hh => hh.tok 0 rfl) ?_
        exact N_ret2 rfl (rv_tmp rfl) (rv_tmp rfl) (fun w hh => ⟨((.slice none 0 0 : Value), ((.slice none 0 0 : Value).ownBlock.toList ++ [])), rfl, hh.sel [0] rfl⟩)
      · refine J_skip ?_
        refine N_then ?_
        refine J_seq ?_
        refine J_region ?_
        refine JL_st (wants_none rfl) rfl (st_buildSlice_od (vs := []) (B := ([] : List Nat)) ([] : List (List Int)) [] Try.underlying22 ti_31 zi_31 rfl rfl rfl rfl rfl (fun w hh => dwv_nil)) (fun b14 => ?_)
        refine JL_q (wants_none rfl) rfl (ex_assign rfl) ?_
        refine JL_q (wants_none rfl) rfl (ex_assign rfl) ?_
        refine JL_nil ?_
        refine N_then ?_
        refine J_seq ?_
        refine J_seq ?_
        refine J_region ?_
        refine JL_q (wants_none rfl) rfl (ex_move rfl) ?_
        refine JL_bnd fun z15 hz16 => ?_
        refine JL_st (wants_none rfl) rfl (st_slice 4 Try.underlying31 ti_2 rfl rfl rfl rfl hz16) (fun v17 => ?_)
        refine JL_q (wants_none rfl) rfl (ex_len_rd 0 Try.underlying31 rfl rfl) ?_
        refine JL_q (wants_none rfl) rfl (ex_move rfl) ?_
        refine JL_nil ?_
        refine N_then ?_
        refine J_ctx (fun w hh => hh.tok 4 rfl) ?_
        refine J_loop' (S := (List (List Int)) × Int × Int) (G := Value × List Nat) (F_impl_DerivationOfMatch_L1 r1 z15) (fun s18 g19 => [(10, x3_0), (14, g19.1), (15, .int .i64 s18.2.1), (43, v17), (44, .int .i64 (z15.length : Int)), (45, .int .i64 s18.2.2)]) (fun s18 g19 => [.rd x3_0 r1.1, .tkn x3_0 r1.1 ((x3_0 : Value).ownBlock.toList ++ x3_1), .od 31 g19.1 s18.1 g19.2, .rd v17 z15]) (([] : List (List Int)), 0, 0) ((.slice (some ⟨b14, 0, none⟩) 0 0), ([] : List Nat)) ⟨rfl, rfl, rfl, rfl, rfl, rfl, trivial⟩ [5, 0, 2, 1] rfl rfl (fun s18 g19 => ?_) (fun s18 g19 => ?_)
        · obtain ⟨g19_0, g19_1⟩ := g19
          unfold F_impl_DerivationOfMatch_L1
          refine J_seq ?_
          refine J_region ?_
          refine JL_q (wants_none rfl) rfl (ex_lss rfl rfl) ?_
          refine JL_nil ?_
          refine N_then ?_
          refine J_seq ?_
          refine J_if rfl (fun h20 => ?_) (fun h20 => ?_)
          · refine J_skip ?_
            refine N_then ?_
            refine J_seq ?_
            refine J_block ?_
            refine J_seq ?_
            refine J_region ?_
            refine JL_bnd fun y21 hy22 => ?_
            refine JL_st (wants_none rfl) rfl (st_index 3 Try.underlying31 ti_2 rfl rfl rfl hy22) (fun q23 => ?_)
            refine JL_st (wants_none rfl) rfl (st_load_pt_o 0 (opens_int _) ti_2 rfl rfl) (fun _ => ?_)
            refine JL_q (wants_none rfl) rfl (ex_assign rfl) ?_
            refine JL_nil ?_
            refine N_then ?_
            refine J_seq ?_
            refine J_block ?_
            refine J_seq ?_
            refine J_region ?_
            refine JL_q (wants_none rfl) rfl (ex_move rfl) ?_
            refine JL_q (wants_none rfl) rfl (ex_move rfl) ?_
            refine JL_bnd fun r25 hr26 => ?_
            refine JL_call (wants_none rfl) rfl Try.call116 rfl (Ca_of0 fun w hh => c_impl_size_impl_Domino _ w (fun _ hk => hk.elim) _ _ (hh.rd0 1 rfl) _ hr26) (fun _ => ?_)
            refine JL_q (wants_none rfl) rfl (ex_sub rfl rfl) ?_
            refine JL_q (wants_none rfl) rfl (ex_eql rfl rfl) ?_
            refine JL_q (wants_none rfl) rfl (ex_assign rfl) ?_
            refine JL_nil ?_
            refine N_then ?_
            refine J_if rfl (fun h27 => ?_) (fun h27 => ?_)
            · refine J_seq ?_
              refine J_region ?_
              refine JL_q (wants_none rfl) rfl (ex_move rfl) ?_
              refine JL_bnd fun r28 hr29 => ?_
              refine JL_call (wants_none rfl) rfl Try.call120 rfl (Ca_self (fun _ => rfl) fun w hh => c_impl_shortDerivation _ w (fun _ hk => hk.elim) _ _ (hh.od0 3 rfl) _ hr29) (fun x30 => ?_)
              refine JL_ctx (fun w hh => hh.tok 4 rfl) ?_
              refine JL_ctx (fun w hh => hh.sub_rd 5 rfl (hh.pr 1 rfl)) ?_
              refine JL_ctx (fun w hh => hh.sub_tkn 1 rfl (hh.pr 2 rfl)) ?_
              refine JL_q (wants_none rfl) rfl (ex_extract rfl rfl) ?_
              refine JL_q (wants_none rfl) rfl (ex_extract rfl rfl) ?_
              refine JL_q (wants_none rfl) rfl (ex_assign rfl) ?_
              refine JL_q (wants_none rfl) rfl (ex_assign rfl) ?_
              refine JL_nil ?_
              refine N_then ?_
              refine J_ret ?_
              refine N_block_ret ?_
              refine N_then_ret ?_
              refine N_block_ret ?_
              refine N_then_ret ?_
              refine N_round_ret ?_
              refine N_then_ret ?_
              exact N_ret2 rfl (rv_tmp rfl) (rv_tmp rfl) (fun w hh => ⟨(x30, ((g19_0 : Value).ownBlock.toList ++ g19_1)), rfl, hh.sel [1] rfl⟩)
            · refine J_seq ?_
              refine J_region ?_
              refine JL_q (wants_none rfl) rfl (ex_move rfl) ?_
              refine JL_q (wants_none rfl) rfl (ex_eql rfl rfl) ?_
              refine JL_q (wants_none rfl) rfl (ex_move rfl) ?_
              refine JL_cond (fun h31 => ?_) (fun h31 => ?_)
              · refine JL_passed rfl rfl rfl h31 ?_
                refine JL_passed rfl rfl rfl h31 ?_
                refine JL_q (wants_none rfl) rfl (ex_pick_true rfl h31 rfl) ?_
                refine JL_q (wants_none rfl) rfl (ex_assign rfl) ?_
                refine JL_nil ?_
                refine N_then ?_
                refine J_if_true rfl rfl ?_
                refine J_seq ?_
                refine J_region ?_
                refine JL_q (wants_none rfl) rfl (ex_assign rfl) ?_
                refine JL_nil ?_
                refine N_then ?_
                refine J_exit ?_
                refine N_block_exit_ne rfl ?_
                refine N_then_exit ?_
                refine N_block_exit ?_
                refine N_then ?_
                refine J_region ?_
                refine JL_q (wants_none rfl) rfl (ex_add rfl rfl) ?_
                refine JL_q (wants_none rfl) rfl (ex_move rfl) ?_
                refine JL_nil ?_
                exact N_next' (g19_0, g19_1) ⟨rfl, rfl, rfl, rfl, rfl, rfl, trivial⟩ [1, 2, 3, 4] rfl rfl
              · refine JL_q (wants_some rfl rfl rfl h31) rfl (ex_move rfl) ?_
                refine JL_q (wants_some rfl rfl rfl h31) rfl (ex_eql rfl rfl) ?_
                refine JL_q (wants_none rfl) rfl (ex_pick_false rfl h31 rfl) ?_
                refine JL_q (wants_none rfl) rfl (ex_assign rfl) ?_
                refine JL_nil ?_
                refine N_then ?_
                refine J_if rfl (fun h32 => ?_) (fun h32 => ?_)
                · refine J_seq ?_
                  refine J_region ?_
                  refine JL_q (wants_none rfl) rfl (ex_assign rfl) ?_
                  refine JL_nil ?_
                  refine N_then ?_
                  refine J_exit ?_
                  refine N_block_exit_ne rfl ?_
                  refine N_then_exit ?_
                  refine N_block_exit ?_
                  refine N_then ?_
                  refine J_region ?_
                  refine JL_q (wants_none rfl) rfl (ex_add rfl rfl) ?_
                  refine JL_q (wants_none rfl) rfl (ex_move rfl) ?_
                  refine JL_nil ?_
                  exact N_next' (g19_0, g19_1) ⟨rfl, rfl, rfl, rfl, rfl, rfl, trivial⟩ [1, 2, 3, 4] rfl rfl
                · refine J_seq ?_
                  refine J_region ?_
                  refine JL_q (wants_none rfl) rfl (ex_move rfl) ?_
                  refine JL_q (wants_none rfl) rfl (ex_geq rfl rfl) ?_
                  refine JL_q (wants_none rfl) rfl (ex_assign rfl) ?_
                  refine JL_nil ?_
                  refine N_then ?_
                  refine J_if rfl (fun h33 => ?_) (fun h33 => ?_)
                  · refine J_region ?_
                    refine JL_q (wants_none rfl) rfl (ex_move rfl) ?_
                    refine JL_q (wants_none rfl) rfl (ex_move rfl) ?_
                    refine JL_q (wants_none rfl) rfl (ex_sub rfl rfl) ?_
                    refine JL_q (wants_none rfl) rfl (ex_move rfl) ?_
                    refine JL_st (wants_none rfl) rfl (st_buildSlice (vs := [.int .i64 (w64 (y21 - 8)), .int .i64 s18.2.1]) ([(w64 (y21 - 8)), s18.2.1] : List Int) Try.underlying31 ti_2 zi_2 rfl rfl rfl (fun w hh => ⟨(Rd.mk_int _ _ _), (Rd.mk_int _ _ _), trivial⟩)) (fun b34 => ?_)
                    refine JL_ctx (fun w hh => hh.tokf 0 rfl rfl) ?_
                    refine JL_st (wants_none rfl) rfl (st_buildSlice_od (vs := [(.slice (some ⟨b34, 0, none⟩) 2 2)]) (B := ((((.slice (some ⟨b34, 0, none⟩) 2 2) : Value).ownBlock.toList ++ []) ++ [])) ([([(w64 (y21 - 8)), s18.2.1] : List Int)] : List (List Int)) [0] Try.underlying22 ti_31 zi_31 rfl rfl rfl rfl rfl (fun w hh => (dwv_cons (hh.dw 0 rfl) dwv_nil))) (fun b35 => ?_)
                    refine JL_bnd fun z36 hz37 => ?_
                    refine JL_st (wants_none rfl) rfl (st_append_od 6 0 Try.underlying22 ti_31 zi_31 rfl bi_31 rfl rfl rfl rfl rfl rfl hz37) (fun v38 => ?_)
                    refine JL_q (wants_none rfl) rfl (ex_assign rfl) ?_
                    refine JL_nil ?_
                    refine N_block ?_
                    refine N_then ?_
                    refine J_region ?_
                    refine JL_q (wants_none rfl) rfl (ex_move rfl) ?_
                    refine JL_q (wants_none rfl) rfl (ex_move rfl) ?_
                    refine JL_q (wants_none rfl) rfl (ex_move rfl) ?_
                    refine JL_bnd fun y39 hy40 => ?_
                    refine JL_st (wants_none rfl) rfl (st_index 4 Try.underlying51 ti_113 rfl rfl rfl hy40) (fun q41 => ?_)
                    refine JL_st (wants_none rfl) rfl (st_field_pt 0 (GDomino.at_Bottom _) fi_113_1 rfl rfl rfl) (fun q42 => ?_)
                    refine JL_st (wants_none rfl) rfl (st_load_pt_o 0 (opens_sl _) ti_31 rfl rfl) (fun v43 => ?_)
                    refine JL_bnd fun r44 hr45 => ?_
                    refine JL_call (wants_none rfl) rfl Try.call82 rfl (Ca_of0 fun w hh => c_impl_size_int64 _ w (fun _ hk => hk.elim) _ _ (hh.rd0 0 rfl) _ hr45) (fun _ => ?_)
                    refine JL_q (wants_none rfl) rfl (ex_add rfl rfl) ?_
                    refine JL_q (wants_none rfl) rfl (ex_assign rfl) ?_
                    refine JL_nil ?_
                    refine N_block ?_
                    refine N_then ?_
                    refine J_region ?_
                    refine JL_q (wants_none rfl) rfl (ex_add rfl rfl) ?_
                    refine JL_q (wants_none rfl) rfl (ex_move rfl) ?_
                    refine JL_nil ?_
                    exact N_next' (v38, (g19_1 ++ ((((.slice (some ⟨b34, 0, none⟩) 2 2) : Value).ownBlock.toList ++ []) ++ []))) ⟨rfl, rfl, rfl, rfl, rfl, rfl, trivial⟩ [7, 8, 9, 10] rfl rfl
                  · refine J_skip ?_
                    refine N_block ?_
                    refine N_then ?_
                    refine J_region ?_
                    refine JL_q (wants_none rfl) rfl (ex_move rfl) ?_
                    refine JL_q (wants_none rfl) rfl (ex_move rfl) ?_
                    refine JL_q (wants_none rfl) rfl (ex_move rfl) ?_
                    refine JL_bnd fun y46 hy47 => ?_
                    refine JL_st (wants_none rfl) rfl (st_index 1 Try.underlying51 ti_113 rfl rfl rfl hy47) (fun q48 => ?_)
                    refine JL_st (wants_none rfl) rfl (st_field_pt 0 (GDomino.at_Bottom _) fi_113_1 rfl rfl rfl) (fun q49 => ?_)
                    refine JL_st (wants_none rfl) rfl (st_load_pt_o 0 (opens_sl _) ti_31 rfl rfl) (fun v50 => ?_)
                    refine JL_bnd fun r51 hr52 => ?_
                    refine JL_call (wants_none rfl) rfl Try.call82 rfl (Ca_of0 fun w hh => c_impl_size_int64 _ w (fun _ hk => hk.elim) _ _ (hh.rd0 0 rfl) _ hr52) (fun _ => ?_)
                    refine JL_q (wants_none rfl) rfl (ex_add rfl rfl) ?_
                    refine JL_q (wants_none rfl) rfl (ex_assign rfl) ?_
                    refine JL_nil ?_
                    refine N_block ?_
                    refine N_then ?_
                    refine J_region ?_
                    refine JL_q (wants_none rfl) rfl (ex_add rfl rfl) ?_
                    refine JL_q (wants_none rfl) rfl (ex_move rfl) ?_
                    refine JL_nil ?_
                    exact N_next' (g19_0, g19_1) ⟨rfl, rfl, rfl, rfl, rfl, rfl, trivial⟩ [4, 5, 6, 7] rfl rfl
          · refine J_exit ?_
            refine N_then_exit ?_
            exact N_break' (g19_0, g19_1) ⟨rfl, rfl, rfl, rfl, rfl, rfl, trivial⟩ [0, 1, 2, 3] rfl rfl
        · obtain ⟨g19_0, g19_1⟩ := g19
          refine N_then ?_
          refine J_seq ?_
          refine J_region ?_
          refine JL_q (wants_none rfl) rfl (ex_move rfl) ?_
          refine JL_bnd fun r53 hr54 => ?_
          refine JL_call (wants_none rfl) rfl Try.call120 rfl (Ca_self (fun _ => rfl) fun w hh => c_impl_shortDerivation _ w (fun _ hk => hk.elim) _ _ (hh.od0 2 rfl) _ hr54) (fun x55 => ?_)
          refine JL_ctx (fun w hh => hh.tok 3 rfl) ?_
          refine JL_ctx (fun w hh => hh.sub_rd 4 rfl (hh.pr 1 rfl)) ?_
          refine JL_ctx (fun w hh => hh.sub_tkn 1 rfl (hh.pr 2 rfl)) ?_
          refine JL_q (wants_none rfl) rfl (ex_extract rfl rfl) ?_
          refine JL_q (wants_none rfl) rfl (ex_extract rfl rfl) ?_
          refine JL_q (wants_none rfl) rfl (ex_assign rfl) ?_
          refine JL_q (wants_none rfl) rfl (ex_assign rfl) ?_
          refine JL_nil ?_
          refine N_then ?_
          refine J_ret ?_
          exact N_ret2 rfl (rv_tmp rfl) (rv_tmp rfl) (fun w hh => ⟨(x55, ((g19_0 : Value).ownBlock.toList ++ g19_1)), rfl, hh.sel [1] rfl⟩)

set_option maxHeartbeats 4000000 in
theorem c_laws_FnExactDerivationOfMatch (A : Nat → Prop) (w : World) (hA : ∀ k, A k → k < w.heap.size) (v0_ : Value) (p0 : (List GRewrite)) (hp0 : Rd A w v0_ p0) (v1_ : Value) (p1 : (List Int)) (hp1 : Rd A w v1_ p1) (v2_ : Value) (p2 : (List Int)) (hp2 : Rd A w v2_ p2) (v3_ : Value) (p3 : (List Int)) (hp3 : Rd A w v3_ p3) (r : Bool) (hr : F_laws_FnExactDerivationOfMatch p0 p1 p2 p3 = some r) :
    Con Try.prog 11 [v0_, v1_, v2_, v3_] A w (fun x_ : Unit => .bool r) (fun x_ => []) := by
  refine Con_of (v := fun (r : Bool) (x_ : Unit) => .bool r) (fs := fun r x_ => []) Try.func11 rfl Try.ntmps11 rfl (((((SH.start hA).start_rd rfl hp0).start_rd rfl hp1).start_rd rfl hp2).start_rd rfl hp3) rfl ?_ hr
  unfold F_laws_FnExactDerivationOfMatch
  refine J_seq ?_
  refine J_region ?_
  refine JL_q (wants_none rfl) rfl (ex_assign rfl) ?_
  refine JL_nil ?_
  refine N_then ?_
  refine J_seq ?_
  refine J_seq ?_
  refine J_region ?_
  refine JL_q (wants_none rfl) rfl (ex_move rfl) ?_
  refine JL_q (wants_none rfl) rfl (ex_len_rd 2 Try.underlying31 rfl rfl) ?_
  refine JL_q (wants_none rfl) rfl (ex_gtr rfl rfl) ?_
  refine JL_nil ?_
  refine N_then ?_
  refine J_if rfl (fun h1 => ?_) (fun h1 => ?_)
  · refine J_seq ?_
    refine J_region ?_
    refine JL_q (wants_none rfl) rfl (ex_assign rfl) ?_
    refine JL_nil ?_
    refine N_then ?_
    refine J_ret ?_
    refine N_then_ret ?_
    exact N_ret1 rfl (rv_tmp rfl) (fun w hh => ⟨(), rfl, hh.sel [] rfl⟩)
  · refine J_skip ?_
    refine N_then ?_
    refine J_seq ?_
    refine J_seq ?_
    refine J_region ?_
    refine JL_q (wants_none rfl) rfl (ex_move rfl) ?_
    refine JL_q (wants_none rfl) rfl (ex_len_rd 1 Try.underlying31 rfl rfl) ?_
    refine JL_q (wants_none rfl) rfl (ex_gtr rfl rfl) ?_
    refine JL_nil ?_
    refine N_then ?_
    refine J_if rfl (fun h2 => ?_) (fun h2 => ?_)
    · refine J_seq ?_
      refine J_region ?_
      refine JL_q (wants_none rfl) rfl (ex_assign rfl) ?_
      refine JL_nil ?_
      refine N_then ?_
      refine J_ret ?_
      refine N_then_ret ?_
      exact N_ret1 rfl (rv_tmp rfl) (fun w hh => ⟨(), rfl, hh.sel [] rfl⟩)
    · refine J_skip ?_
      refine N_then ?_
      refine J_seq ?_
      refine J_seq ?_
      refine J_region ?_
      refine JL_q (wants_none rfl) rfl (ex_move rfl) ?_
      refine JL_q (wants_none rfl) rfl (ex_len_rd 0 Try.underlying31 rfl rfl) ?_
      refine JL_q (wants_none rfl) rfl (ex_gtr rfl rfl) ?_
      refine JL_nil ?_
      refine N_then ?_
      refine J_if rfl (fun h3 => ?_) (fun h3 => ?_)
      · refine J_seq ?_
        refine J_region ?_
        refine JL_q (wants_none rfl) rfl (ex_assign rfl) ?_
        refine JL_nil ?_
        refine N_then ?_
        refine J_ret ?_
        refine N_then_ret ?_
        exact N_ret1 rfl (rv_tmp rfl) (fun w hh => ⟨(), rfl, hh.sel [] rfl⟩)
      · refine J_skip ?_
        refine N_then ?_
        refine J_seq ?_
        refine J_region ?_
        refine JL_q (wants_none rfl) rfl (ex_assign rfl) ?_
        refine JL_nil ?_
        refine N_then ?_
        refine J_seq ?_
        refine J_region ?_
        refine JL_q (wants_none rfl) rfl (ex_move rfl) ?_
        refine JL_q (wants_none rfl) rfl (ex_move rfl) ?_
        refine JL_bnd fun r4 hr5 => ?_
        refine JL_call (wants_none rfl) rfl Try.call34 rfl (Ca_of0 fun w hh => c_laws_szRewriteS _ w (fun _ hk => hk.elim) _ _ (hh.rd0 3 rfl) _ _ hr5) (fun _ => ?_)
        refine JL_q (wants_none rfl) rfl (ex_assign rfl) ?_
        refine JL_nil ?_
        refine N_then ?_
        refine J_seq ?_
        refine J_seq ?_
        refine J_region ?_
        refine JL_q (wants_none rfl) rfl (ex_move rfl) ?_
        refine JL_q (wants_none rfl) rfl (ex_lss rfl rfl) ?_
        refine JL_nil ?_
        refine N_then ?_
        refine J_if rfl (fun h6 => ?_) (fun h6 => ?_)
        · refine J_seq ?_
          refine J_region ?_
          refine JL_q (wants_none rfl) rfl (ex_assign rfl) ?_
          refine JL_nil ?_
          refine N_then ?_
          refine J_ret ?_
          refine N_then_ret ?_
          exact N_ret1 rfl (rv_tmp rfl) (fun w hh => ⟨(), rfl, hh.sel [] rfl⟩)
        · refine J_skip ?_
          refine N_then ?_
          refine J_seq ?_
          refine J_region ?_
          refine JL_q (wants_none rfl) rfl (ex_move rfl) ?_
          refine JL_bnd fun r7 hr8 => ?_
          refine JL_call (wants_none rfl) rfl Try.call36 rfl (Ca_self (fun _ => rfl) fun w hh => c_laws_toRewriteS _ w (fun _ hk => hk.elim) _ _ (hh.rd0 3 rfl) _ hr8) (fun x9 => ?_)
          obtain ⟨x9_0, x9_1⟩ := x9
          refine JL_q (wants_none rfl) rfl (ex_move rfl) ?_
          refine JL_bnd fun r10 hr11 => ?_
          refine JL_call (wants_none rfl) rfl Try.call25 rfl (Ca_self (fun _ => rfl) fun w hh => c_laws_toInt64S _ w (fun _ hk => hk.elim) _ _ (hh.rd0 3 rfl) _ hr11) (fun x12 => ?_)
          refine JL_q (wants_none rfl) rfl (ex_move rfl) ?_
          refine JL_bnd fun r13 hr14 => ?_
          refine JL_call (wants_none rfl) rfl Try.call25 rfl (Ca_self (fun _ => rfl) fun w hh => c_laws_toInt64S _ w (fun _ hk => hk.elim) _ _ (hh.rd0 3 rfl) _ hr14) (fun x15 => ?_)
          refine JL_q (wants_none rfl) rfl (ex_move rfl) ?_
          refine JL_bnd fun r16 hr17 => ?_
          refine JL_call (wants_none rfl) rfl Try.call25 rfl (Ca_self (fun _ => rfl) fun w hh => c_laws_toInt64S _ w (fun _ hk => hk.elim) _ _ (hh.rd0 3 rfl) _ hr17) (fun x18 => ?_)
          refine JL_bnd fun r19 hr20 => ?_
          refine JL_call (wants_none rfl) rfl Try.call59 rfl (Ca_self (fun _ => rfl) fun w hh => c_spec_DerivationOfMatch _ w (fun _ hk => hk.elim) _ _ (hh.od0 3 rfl) _ _ (hh.ow0 2 rfl) _ _ (hh.ow0 1 rfl) _ _ (hh.ow0 0 rfl) _ hr20) (fun x21 => ?_)
          obtain ⟨x21_0, x21_1⟩ := x21
          refine JL_q (wants_none rfl) rfl (ex_move rfl) ?_
          refine JL_q (wants_none rfl) rfl (ex_extract rfl rfl) ?_
          refine JL_q (wants_none rfl) rfl (ex_extract rfl rfl) ?_
          refine JL_q (wants_none rfl) rfl (ex_assign rfl) ?_
          refine JL_q (wants_none rfl) rfl (ex_assign rfl) ?_
          refine JL_nil ?_
          refine N_then ?_
          refine J_seq ?_
          refine J_region ?_
          refine JL_q (wants_none rfl) rfl (ex_move rfl) ?_
          refine JL_bnd fun r22 hr23 => ?_
          refine JL_call (wants_none rfl) rfl Try.call36 rfl (Ca_self (fun _ => rfl) fun w hh => c_laws_toRewriteS _ w (fun _ hk => hk.elim) _ _ (hh.rd0 8 rfl) _ hr23) (fun x24 => ?_)
          obtain ⟨x24_0, x24_1⟩ := x24
          refine JL_q (wants_none rfl) rfl (ex_assign rfl) ?_
          refine JL_nil ?_
          refine N_then ?_
          refine J_seq ?_
          refine J_region ?_
          refine JL_q (wants_none rfl) rfl (ex_move rfl) ?_
          refine JL_bnd fun r25 hr26 => ?_
          refine JL_call (wants_none rfl) rfl Try.call25 rfl (Ca_self (fun _ => rfl) fun w hh => c_laws_toInt64S _ w (fun _ hk => hk.elim) _ _ (hh.rd0 8 rfl) _ hr26) (fun x27 => ?_)
          refine JL_q (wants_none rfl) rfl (ex_assign rfl) ?_
          refine JL_nil ?_
          refine N_then ?_
          refine J_seq ?_
          refine J_region ?_
          refine JL_q (wants_none rfl) rfl (ex_move rfl) ?_
          refine JL_bnd fun r28 hr29 => ?_
          refine JL_call (wants_none rfl) rfl Try.call25 rfl (Ca_self (fun _ => rfl) fun w hh => c_laws_toInt64S _ w (fun _ hk => hk.elim) _ _ (hh.rd0 8 rfl) _ hr29) (fun x30 => ?_)
          refine JL_q (wants_none rfl) rfl (ex_assign rfl) ?_
          refine JL_nil ?_
          refine N_then ?_
          refine J_seq ?_
          refine J_region ?_
          refine JL_q (wants_none rfl) rfl (ex_move rfl) ?_
          refine JL_bnd fun r31 hr32 => ?_
          refine JL_call (wants_none rfl) rfl Try.call25 rfl (Ca_self (fun _ => rfl) fun w hh => c_laws_toInt64S _ w (fun _ hk => hk.elim) _ _ (hh.rd0 8 rfl) _ hr32) (fun x33 => ?_)
          refine JL_q (wants_none rfl) rfl (ex_assign rfl) ?_
          refine JL_nil ?_
          refine N_then ?_
          refine J_seq ?_
          refine J_region ?_
          refine JL_q (wants_none rfl) rfl (ex_move rfl) ?_
          refine JL_q (wants_none rfl) rfl (ex_move rfl) ?_
          refine JL_q (wants_none rfl) rfl (ex_move rfl) ?_
          refine JL_q (wants_none rfl) rfl (ex_move rfl) ?_
          refine JL_bnd fun r34 hr35 => ?_
          refine JL_call (wants_none rfl) rfl Try.call60 rfl (Ca_self (fun _ => rfl) fun w hh => c_impl_DerivationOfMatch _ w (fun _ hk => hk.elim) _ _ (hh.od0 3 rfl) _ _ (hh.ow0 2 rfl) _ _ (hh.ow0 1 rfl) _ _ (hh.ow0 0 rfl) _ hr35) (fun x36 => ?_)
          obtain ⟨x36_0, x36_1⟩ := x36
          refine JL_ctx (fun w hh => hh.tkn_rd 0 rfl) ?_
          refine JL_q (wants_none rfl) rfl (ex_move rfl) ?_
          refine JL_q (wants_none rfl) rfl (ex_extract rfl rfl) ?_
          refine JL_q (wants_none rfl) rfl (ex_extract rfl rfl) ?_
          refine JL_q (wants_none rfl) rfl (ex_assign rfl) ?_
          refine JL_q (wants_none rfl) rfl (ex_assign rfl) ?_
          refine JL_nil ?_
          refine N_then ?_
          refine J_seq ?_
          refine J_cut' (S' := Unit) (G' := Unit) (fun _ _ => [(0, v0_), (1, v1_), (2, v2_), (3, v3_), (10, x21_0), (11, .int .i64 r19.2), (12, x24_0), (13, x27), (14, x30), (15, x33), (16, x36_0), (17, .int .i64 r34.2)]) (fun _ _ => [.rd v0_ p0, .rd v1_ p1, .rd v2_ p2, .rd v3_ p3, .od 31 x21_0 r19.1 x21_1, .od 107 x24_0 r22 x24_1, .ow 2 x27 r25, .ow 2 x30 r28, .ow 2 x33 r31, .rd x36_0 r34.1, .tkn x36_0 r34.1 x36_1]) ?_ (fun s37 g38 => ?_)
          · refine J_seq ?_
            refine J_region ?_
            refine JL_q (wants_none rfl) rfl (ex_move rfl) ?_
            refine JL_q (wants_none rfl) rfl (ex_move rfl) ?_
            refine JL_bnd fun r39 hr40 => ?_
            refine JL_call (wants_none rfl) rfl Try.call19 rfl (Ca_of0 fun w hh => c_laws_eqInt64SS _ w (fun _ hk => hk.elim) _ _ (hh.rd0 0 rfl) _ _ (hh.od0 6 rfl) _ hr40) (fun _ => ?_)
            refine JL_q (wants_none rfl) rfl (ex_not rfl) ?_
            refine JL_q (wants_none rfl) rfl (ex_move rfl) ?_
            refine JL_cond (fun h41 => ?_) (fun h41 => ?_)
            · refine JL_passed rfl rfl rfl h41 ?_
              refine JL_passed rfl rfl rfl h41 ?_
              refine JL_passed rfl rfl rfl h41 ?_
              refine JL_q (wants_none rfl) rfl (ex_pick_true rfl h41 rfl) ?_
              refine JL_nil ?_
              refine N_then ?_
              refine J_if_true rfl rfl ?_
              refine J_seq ?_
              refine J_region ?_
              refine JL_q (wants_none rfl) rfl (ex_assign rfl) ?_
              refine JL_nil ?_
              refine N_then ?_
              refine J_ret ?_
              refine N_mid_ret ?_
              refine N_then_ret ?_
              exact N_ret1 rfl (rv_tmp rfl) (fun w hh => ⟨(), rfl, hh.sel [] rfl⟩)
            · refine JL_q (wants_some rfl rfl rfl h41) rfl (ex_move rfl) ?_
              refine JL_q (wants_some rfl rfl rfl h41) rfl (ex_move rfl) ?_
              refine JL_q (wants_some rfl rfl rfl h41) rfl (ex_neq rfl rfl) ?_
              refine JL_q (wants_none rfl) rfl (ex_pick_false rfl h41 rfl) ?_
              refine JL_nil ?_
              refine N_then ?_
              refine J_if rfl (fun h42 => ?_) (fun h42 => ?_)
              · refine J_seq ?_
                refine J_region ?_
                refine JL_q (wants_none rfl) rfl (ex_assign rfl) ?_
                refine JL_nil ?_
                refine N_then ?_
                refine J_ret ?_
                refine N_mid_ret ?_
                refine N_then_ret ?_
                exact N_ret1 rfl (rv_tmp rfl) (fun w hh => ⟨(), rfl, hh.sel [] rfl⟩)
              · refine J_skip ?_
                exact N_meet' () ⟨rfl, rfl, rfl, rfl, rfl, rfl, rfl, rfl, rfl, rfl, rfl, rfl, trivial⟩ [14, 13, 12, 11, 6, 5, 4, 3, 2, 0, 1] rfl rfl
          · refine N_then ?_
            refine J_seq ?_
            refine J_seq ?_
            refine J_region ?_
            refine JL_q (wants_none rfl) rfl (ex_move rfl) ?_
            refine JL_q (wants_none rfl) rfl (ex_move rfl) ?_
            refine JL_bnd fun r43 hr44 => ?_
            refine JL_call (wants_none rfl) rfl Try.call36 rfl (Ca_self (fun _ => rfl) fun w hh => c_laws_toRewriteS _ w (fun _ hk => hk.elim) _ _ (hh.rd0 0 rfl) _ hr44) (fun x45 => ?_)
            obtain ⟨x45_0, x45_1⟩ := x45
            refine JL_bnd fun r46 hr47 => ?_
            refine JL_call (wants_none rfl) rfl Try.call39 rfl (Ca_of0 fun w hh => c_laws_eqRewriteS _ w (fun _ hk => hk.elim) _ _ (hh.od0 6 rfl) _ _ (hh.od0 0 rfl) _ hr47) (fun _ => ?_)
            refine JL_q (wants_none rfl) rfl (ex_not rfl) ?_
            refine JL_nil ?_
            refine N_then ?_
            refine J_if rfl (fun h48 => ?_) (fun h48 => ?_)
            · refine J_seq ?_
              refine J_region ?_
              refine JL_q (wants_none rfl) rfl (ex_assign rfl) ?_
              refine JL_nil ?_
              refine N_then ?_
              refine J_ret ?_
              refine N_then_ret ?_
              exact N_ret1 rfl (rv_tmp rfl) (fun w hh => ⟨(), rfl, hh.sel [] rfl⟩)
            · refine J_skip ?_
              refine N_then ?_
              refine J_seq ?_
              refine J_seq ?_
              refine J_region ?_
              refine JL_q (wants_none rfl) rfl (ex_move rfl) ?_
              refine JL_q (wants_none rfl) rfl (ex_move rfl) ?_
              refine JL_bnd fun r49 hr50 => ?_
              refine JL_call (wants_none rfl) rfl Try.call25 rfl (Ca_self (fun _ => rfl) fun w hh => c_laws_toInt64S _ w (fun _ hk => hk.elim) _ _ (hh.rd0 2 rfl) _ hr50) (fun x51 => ?_)
              refine JL_bnd fun r52 hr53 => ?_
              refine JL_call (wants_none rfl) rfl Try.call29 rfl (Ca_of0 fun w hh => c_laws_eqInt64S _ w (fun _ hk => hk.elim) _ _ (hh.ow0 8 rfl) _ _ (hh.ow0 0 rfl) _ hr53) (fun _ => ?_)
              refine JL_q (wants_none rfl) rfl (ex_not rfl) ?_
              refine JL_nil ?_
              refine N_then ?_
              refine J_if rfl (fun h54 => ?_) (fun h54 => ?_)
              · refine J_seq ?_
                refine J_region ?_
                refine JL_q (wants_none rfl) rfl (ex_assign rfl) ?_
                refine JL_nil ?_
                refine N_then ?_
                refine J_ret ?_
                refine N_then_ret ?_
                exact N_ret1 rfl (rv_tmp rfl) (fun w hh => ⟨(), rfl, hh.sel [] rfl⟩)
              · refine J_skip ?_
                refine N_then ?_
                refine J_seq ?_
                refine J_seq ?_
                refine J_region ?_
                refine JL_q (wants_none rfl) rfl (ex_move rfl) ?_
                refine JL_q (wants_none rfl) rfl (ex_move rfl) ?_
                refine JL_bnd fun r55 hr56 => ?_
                refine JL_call (wants_none rfl) rfl Try.call25 rfl (Ca_self (fun _ => rfl) fun w hh => c_laws_toInt64S _ w (fun _ hk => hk.elim) _ _ (hh.rd0 4 rfl) _ hr56) (fun x57 => ?_)
                refine JL_bnd fun r58 hr59 => ?_
                refine JL_call (wants_none rfl) rfl Try.call29 rfl (Ca_of0 fun w hh => c_laws_eqInt64S _ w (fun _ hk => hk.elim) _ _ (hh.ow0 10 rfl) _ _ (hh.ow0 0 rfl) _ hr59) (fun _ => ?_)
                refine JL_q (wants_none rfl) rfl (ex_not rfl) ?_
                refine JL_nil ?_
                refine N_then ?_
                refine J_if rfl (fun h60 => ?_) (fun h60 => ?_)
                · refine J_seq ?_
                  refine J_region ?_
                  refine JL_q (wants_none rfl) rfl (ex_assign rfl) ?_
                  refine JL_nil ?_
                  refine N_then ?_
                  refine J_ret ?_
                  refine N_then_ret ?_
                  exact N_ret1 rfl (rv_tmp rfl) (fun w hh => ⟨(), rfl, hh.sel [] rfl⟩)
                · refine J_skip ?_
                  refine N_then ?_
                  refine J_seq ?_
                  refine J_seq ?_
                  refine J_region ?_
                  refine JL_q (wants_none rfl) rfl (ex_move rfl) ?_
                  refine JL_q (wants_none rfl) rfl (ex_move rfl) ?_
                  refine JL_bnd fun r61 hr62 => ?_
                  refine JL_call (wants_none rfl) rfl Try.call25 rfl (Ca_self (fun _ => rfl) fun w hh => c_laws_toInt64S _ w (fun _ hk => hk.elim) _ _ (hh.rd0 6 rfl) _ hr62) (fun x63 => ?_)
                  refine JL_bnd fun r64 hr65 => ?_
                  refine JL_call (wants_none rfl) rfl Try.call29 rfl (Ca_of0 fun w hh => c_laws_eqInt64S _ w (fun _ hk => hk.elim) _ _ (hh.ow0 12 rfl) _ _ (hh.ow0 0 rfl) _ hr65) (fun _ => ?_)
                  refine JL_q (wants_none rfl) rfl (ex_not rfl) ?_
                  refine JL_nil ?_
                  refine N_then ?_
                  refine J_if rfl (fun h66 => ?_) (fun h66 => ?_)
                  · refine J_seq ?_
                    refine J_region ?_
                    refine JL_q (wants_none rfl) rfl (ex_assign rfl) ?_
                    refine JL_nil ?_
                    refine N_then ?_
                    refine J_ret ?_
                    refine N_then_ret ?_
                    exact N_ret1 rfl (rv_tmp rfl) (fun w hh => ⟨(), rfl, hh.sel [] rfl⟩)
                  · refine J_skip ?_
                    refine N_then ?_
                    refine J_seq ?_
                    refine J_region ?_
                    refine JL_q (wants_none rfl) rfl (ex_assign rfl) ?_
                    refine JL_nil ?_
                    refine N_then ?_
                    refine J_seq ?_
                    refine J_region ?_
                    refine JL_q (wants_none rfl) rfl (ex_move rfl) ?_
                    refine JL_q (wants_none rfl) rfl (ex_move rfl) ?_
                    refine JL_bnd fun r67 hr68 => ?_
                    refine JL_ctx (fun w hh => hh.tok 9 rfl) ?_
                    refine JL_mark 0 [1, 2, 3, 4, 9, 11, 12, 13, 15] mk_laws_markRewriteS (wants_none rfl) rfl Try.call40 rfl rfl rfl rfl (((((SH.start hA).start_rd rfl hp0).start_rd rfl hp1).start_rd rfl hp2).start_rd rfl hp3) rfl hr68 ?_
                    refine JL_ctx (fun w hh => hh.tkn_rd 14 rfl) ?_
                    refine JL_q (wants_none rfl) rfl (ex_assign rfl) ?_
                    refine JL_nil ?_
                    refine N_then ?_
                    refine J_seq ?_
                    refine J_region ?_
                    refine JL_q (wants_none rfl) rfl (ex_move rfl) ?_
                    refine JL_q (wants_none rfl) rfl (ex_move rfl) ?_
                    refine JL_bnd fun r69 hr70 => ?_
                    refine JL_ctx (fun w hh => hh.tokf 12 rfl rfl) ?_
                    refine JL_mark 0 [3, 8, 9, 10, 11, 12, 14, 15, 16] mk_laws_markInt64S (wants_none rfl) rfl Try.call31 rfl rfl rfl rfl (((((SH.start hA).start_rd rfl hp0).start_rd rfl hp1).start_rd rfl hp2).start_rd rfl hp3) rfl hr70 ?_
                    refine JL_ctx (fun w hh => hh.tkn_rd 14 rfl) ?_
                    refine JL_ctx (fun w hh => hh.tkn_rd 7 rfl) ?_
                    refine JL_q (wants_none rfl) rfl (ex_assign rfl) ?_
                    refine JL_nil ?_
                    refine N_then ?_
                    refine J_seq ?_
                    refine J_region ?_
                    refine JL_q (wants_none rfl) rfl (ex_move rfl) ?_
                    refine JL_q (wants_none rfl) rfl (ex_move rfl) ?_
                    refine JL_bnd fun r71 hr72 => ?_
                    refine JL_ctx (fun w hh => hh.tokf 14 rfl rfl) ?_
                    refine JL_mark 0 [4, 9, 10, 11, 12, 13, 14, 16, 17] mk_laws_markInt64S (wants_none rfl) rfl Try.call31 rfl rfl rfl rfl (((((SH.start hA).start_rd rfl hp0).start_rd rfl hp1).start_rd rfl hp2).start_rd rfl hp3) rfl hr72 ?_
                    refine JL_ctx (fun w hh => hh.tkn_rd 7 rfl) ?_
                    refine JL_ctx (fun w hh => hh.tkn_rd 15 rfl) ?_
                    refine JL_ctx (fun w hh => hh.tkn_rd 8 rfl) ?_
                    refine JL_q (wants_none rfl) rfl (ex_assign rfl) ?_
                    refine JL_nil ?_
                    refine N_then ?_
                    refine J_seq ?_
                    refine J_region ?_
                    refine JL_q (wants_none rfl) rfl (ex_move rfl) ?_
                    refine JL_q (wants_none rfl) rfl (ex_move rfl) ?_
                    refine JL_bnd fun r73 hr74 => ?_
                    refine JL_ctx (fun w hh => hh.tokf 16 rfl rfl) ?_
                    refine JL_mark 0 [5, 10, 11, 12, 13, 14, 15, 16, 18] mk_laws_markInt64S (wants_none rfl) rfl Try.call31 rfl rfl rfl rfl (((((SH.start hA).start_rd rfl hp0).start_rd rfl hp1).start_rd rfl hp2).start_rd rfl hp3) rfl hr74 ?_
                    refine JL_ctx (fun w hh => hh.tkn_rd 7 rfl) ?_
                    refine JL_ctx (fun w hh => hh.tkn_rd 15 rfl) ?_
                    refine JL_ctx (fun w hh => hh.tkn_rd 10 rfl) ?_
                    refine JL_ctx (fun w hh => hh.tkn_rd 9 rfl) ?_
                    refine JL_q (wants_none rfl) rfl (ex_assign rfl) ?_
                    refine JL_nil ?_
                    refine N_then ?_
                    refine J_seq ?_
                    refine J_cut' (S' := Unit) (G' := Unit) (fun _ _ => [(0, v0_), (1, v1_), (2, v2_), (3, v3_), (10, x21_0), (11, .int .i64 r19.2), (16, x36_0)]) (fun _ _ => [.rd v0_ p0, .rd v1_ p1, .rd v2_ p2, .rd v3_ p3, .od 31 x21_0 r19.1 x21_1, .rd x36_0 r34.1, .tkn x36_0 r34.1 x36_1]) ?_ (fun s75 g76 => ?_)
                    · refine J_seq ?_
                      refine J_region ?_
                      refine JL_q (wants_none rfl) rfl (ex_move rfl) ?_
                      refine JL_q (wants_none rfl) rfl (ex_lss rfl rfl) ?_
                      refine JL_q (wants_none rfl) rfl (ex_move rfl) ?_
                      refine JL_cond (fun h77 => ?_) (fun h77 => ?_)
                      · refine JL_passed rfl rfl rfl h77 ?_
                        refine JL_passed rfl rfl rfl h77 ?_
                        refine JL_passed rfl rfl rfl h77 ?_
                        refine JL_passed rfl rfl rfl h77 ?_
                        refine JL_q (wants_none rfl) rfl (ex_pick_true rfl h77 rfl) ?_
                        refine JL_q (wants_none rfl) rfl (ex_move rfl) ?_
                        refine JL_passed rfl rfl rfl rfl ?_
                        refine JL_passed rfl rfl rfl rfl ?_
                        refine JL_passed rfl rfl rfl rfl ?_
                        refine JL_q (wants_none rfl) rfl (ex_pick_true rfl rfl rfl) ?_
                        refine JL_nil ?_
                        refine N_then ?_
                        refine J_if_true rfl rfl ?_
                        refine J_seq ?_
                        refine J_region ?_
                        refine JL_q (wants_none rfl) rfl (ex_assign rfl) ?_
                        refine JL_nil ?_
                        refine N_then ?_
                        refine J_ret ?_
                        refine N_mid_ret ?_
                        refine N_then_ret ?_
                        exact N_ret1 rfl (rv_tmp rfl) (fun w hh => ⟨(), rfl, hh.sel [] rfl⟩)
                      · refine JL_q (wants_some rfl rfl rfl h77) rfl (ex_move rfl) ?_
                        refine JL_q (wants_some rfl rfl rfl h77) rfl (ex_move rfl) ?_
                        refine JL_bnd fun r78 hr79 => ?_
                        refine JL_call (wants_some rfl rfl rfl h77) rfl Try.call19 rfl (Ca_of0 fun w hh => c_laws_eqInt64SS _ w (fun _ hk => hk.elim) _ _ (hh.rd0 2 rfl) _ _ (hh.od0 17 rfl) _ hr79) (fun _ => ?_)
                        refine JL_q (wants_some rfl rfl rfl h77) rfl (ex_not rfl) ?_
                        refine JL_q (wants_none rfl) rfl (ex_pick_false rfl h77 rfl) ?_
                        refine JL_q (wants_none rfl) rfl (ex_move rfl) ?_
                        refine JL_cond (fun h80 => ?_) (fun h80 => ?_)
                        · refine JL_passed rfl rfl rfl h80 ?_
                          refine JL_passed rfl rfl rfl h80 ?_
                          refine JL_passed rfl rfl rfl h80 ?_
                          refine JL_q (wants_none rfl) rfl (ex_pick_true rfl h80 rfl) ?_
                          refine JL_nil ?_
                          refine N_then ?_
                          refine J_if_true rfl rfl ?_
                          refine J_seq ?_
                          refine J_region ?_
                          refine JL_q (wants_none rfl) rfl (ex_assign rfl) ?_
                          refine JL_nil ?_
                          refine N_then ?_
                          refine J_ret ?_
                          refine N_mid_ret ?_
                          refine N_then_ret ?_
                          exact N_ret1 rfl (rv_tmp rfl) (fun w hh => ⟨(), rfl, hh.sel [] rfl⟩)
                        · refine JL_q (wants_some rfl rfl rfl h80) rfl (ex_move rfl) ?_
                          refine JL_q (wants_some rfl rfl rfl h80) rfl (ex_move rfl) ?_
                          refine JL_q (wants_some rfl rfl rfl h80) rfl (ex_neq rfl rfl) ?_
                          refine JL_q (wants_none rfl) rfl (ex_pick_false rfl h80 rfl) ?_
                          refine JL_nil ?_
                          refine N_then ?_
                          refine J_if rfl (fun h81 => ?_) (fun h81 => ?_)
                          · refine J_seq ?_
                            refine J_region ?_
                            refine JL_q (wants_none rfl) rfl (ex_assign rfl) ?_
                            refine JL_nil ?_
                            refine N_then ?_
                            refine J_ret ?_
                            refine N_mid_ret ?_
                            refine N_then_ret ?_
                            exact N_ret1 rfl (rv_tmp rfl) (fun w hh => ⟨(), rfl, hh.sel [] rfl⟩)
                          · refine J_skip ?_
                            exact N_meet' () ⟨rfl, rfl, rfl, rfl, rfl, rfl, rfl, trivial⟩ [9, 8, 7, 6, 17, 2, 18] rfl rfl
                    · refine N_then ?_
                      refine J_seq ?_
                      refine J_region ?_
                      refine JL_q (wants_none rfl) rfl (ex_assign rfl) ?_
                      refine JL_nil ?_
                      refine N_then ?_
                      refine J_seq ?_
                      refine J_region ?_
                      refine JL_q (wants_none rfl) rfl (ex_move rfl) ?_
                      refine JL_q (wants_none rfl) rfl (ex_move rfl) ?_
                      refine JL_bnd fun r82 hr83 => ?_
                      refine JL_mark 6 [4] mk_laws_markInt64SS (wants_none rfl) rfl Try.call20 rfl rfl rfl rfl (((((SH.start hA).start_rd rfl hp0).start_rd rfl hp1).start_rd rfl hp2).start_rd rfl hp3) rfl hr83 ?_
                      refine JL_q (wants_none rfl) rfl (ex_assign rfl) ?_
                      refine JL_nil ?_
                      refine N_then ?_
                      refine J_seq ?_
                      refine J_region ?_
                      refine JL_q (wants_none rfl) rfl (ex_assign rfl) ?_
                      refine JL_nil ?_
                      refine N_then ?_
                      refine J_seq ?_
                      refine J_region ?_
                      refine JL_q (wants_none rfl) rfl (ex_move rfl) ?_
                      refine JL_q (wants_none rfl) rfl (ex_move rfl) ?_
                      refine JL_bnd fun r84 hr85 => ?_
                      refine JL_call (wants_none rfl) rfl Try.call21 rfl (Ca_of0 fun w hh => c_laws_heldInt64SS _ w (fun _ hk => hk.elim) _ _ (hh.rd0 0 rfl) _ _ hr85) (fun _ => ?_)
                      refine JL_q (wants_none rfl) rfl (ex_assign rfl) ?_
                      refine JL_nil ?_
                      refine N_then ?_
                      refine J_seq ?_
                      refine J_seq ?_
                      refine J_region ?_
                      refine JL_q (wants_none rfl) rfl (ex_move rfl) ?_
                      refine JL_q (wants_none rfl) rfl (ex_lss rfl rfl) ?_
                      refine JL_nil ?_
                      refine N_then ?_
                      refine J_if rfl (fun h86 => ?_) (fun h86 => ?_)
                      · refine J_seq ?_
                        refine J_region ?_
                        refine JL_q (wants_none rfl) rfl (ex_assign rfl) ?_
                        refine JL_nil ?_
                        refine N_then ?_
                        refine J_ret ?_
                        refine N_then_ret ?_
                        exact N_ret1 rfl (rv_tmp rfl) (fun w hh => ⟨(), rfl, hh.sel [] rfl⟩)
                      · refine J_skip ?_
                        refine N_then ?_
                        refine J_seq ?_
                        refine J_seq ?_
                        refine J_region ?_
                        refine JL_q (wants_none rfl) rfl (ex_move rfl) ?_
                        refine JL_q (wants_none rfl) rfl (ex_move rfl) ?_
                        refine JL_q (wants_none rfl) rfl (ex_neq rfl rfl) ?_
                        refine JL_nil ?_
                        refine N_then ?_
                        refine J_if rfl (fun h87 => ?_) (fun h87 => ?_)
                        · refine J_seq ?_
                          refine J_region ?_
                          refine JL_q (wants_none rfl) rfl (ex_assign rfl) ?_
                          refine JL_nil ?_
                          refine N_then ?_
                          refine J_ret ?_
                          refine N_then_ret ?_
                          exact N_ret1 rfl (rv_tmp rfl) (fun w hh => ⟨(), rfl, hh.sel [] rfl⟩)
                        · refine J_skip ?_
                          refine N_then ?_
                          refine J_seq ?_
                          refine J_region ?_
                          refine JL_q (wants_none rfl) rfl (ex_move rfl) ?_
                          refine JL_bnd fun r88 hr89 => ?_
                          refine JL_call (wants_none rfl) rfl Try.call36 rfl (Ca_self (fun _ => rfl) fun w hh => c_laws_toRewriteS _ w (fun _ hk => hk.elim) _ _ (hh.rd0 5 rfl) _ hr89) (fun x90 => ?_)
                          obtain ⟨x90_0, x90_1⟩ := x90
                          refine JL_q (wants_none rfl) rfl (ex_move rfl) ?_
                          refine JL_bnd fun r91 hr92 => ?_
                          refine JL_call (wants_none rfl) rfl Try.call25 rfl (Ca_self (fun _ => rfl) fun w hh => c_laws_toInt64S _ w (fun _ hk => hk.elim) _ _ (hh.rd0 5 rfl) _ hr92) (fun x93 => ?_)
                          refine JL_q (wants_none rfl) rfl (ex_move rfl) ?_
                          refine JL_bnd fun r94 hr95 => ?_
                          refine JL_call (wants_none rfl) rfl Try.call25 rfl (Ca_self (fun _ => rfl) fun w hh => c_laws_toInt64S _ w (fun _ hk => hk.elim) _ _ (hh.rd0 5 rfl) _ hr95) (fun x96 => ?_)
                          refine JL_q (wants_none rfl) rfl (ex_move rfl) ?_
                          refine JL_bnd fun r97 hr98 => ?_
                          refine JL_call (wants_none rfl) rfl Try.call25 rfl (Ca_self (fun _ => rfl) fun w hh => c_laws_toInt64S _ w (fun _ hk => hk.elim) _ _ (hh.rd0 5 rfl) _ hr98) (fun x99 => ?_)
                          refine JL_bnd fun r100 hr101 => ?_
                          refine JL_call (wants_none rfl) rfl Try.call60 rfl (Ca_self (fun _ => rfl) fun w hh => c_impl_DerivationOfMatch _ w (fun _ hk => hk.elim) _ _ (hh.od0 3 rfl) _ _ (hh.ow0 2 rfl) _ _ (hh.ow0 1 rfl) _ _ (hh.ow0 0 rfl) _ hr101) (fun x102 => ?_)
                          obtain ⟨x102_0, x102_1⟩ := x102
                          refine JL_ctx (fun w hh => hh.tkn_rd 0 rfl) ?_
                          refine JL_q (wants_none rfl) rfl (ex_move rfl) ?_
                          refine JL_q (wants_none rfl) rfl (ex_extract rfl rfl) ?_
                          refine JL_q (wants_none rfl) rfl (ex_extract rfl rfl) ?_
                          refine JL_q (wants_none rfl) rfl (ex_assign rfl) ?_
                          refine JL_q (wants_none rfl) rfl (ex_assign rfl) ?_
                          refine JL_nil ?_
                          refine N_then ?_
                          refine J_seq ?_
                          refine J_seq ?_
                          refine J_region ?_
                          refine JL_q (wants_none rfl) rfl (ex_move rfl) ?_
                          refine JL_q (wants_none rfl) rfl (ex_move rfl) ?_
                          refine JL_bnd fun r103 hr104 => ?_
                          refine JL_call (wants_none rfl) rfl Try.call19 rfl (Ca_of0 fun w hh => c_laws_eqInt64SS _ w (fun _ hk => hk.elim) _ _ (hh.rd0 0 rfl) _ _ (hh.od0 12 rfl) _ hr104) (fun _ => ?_)
                          refine JL_q (wants_none rfl) rfl (ex_not rfl) ?_
                          refine JL_q (wants_none rfl) rfl (ex_move rfl) ?_
                          refine JL_cond (fun h105 => ?_) (fun h105 => ?_)
                          · refine JL_passed rfl rfl rfl h105 ?_
                            refine JL_passed rfl rfl rfl h105 ?_
                            refine JL_passed rfl rfl rfl h105 ?_
                            refine JL_q (wants_none rfl) rfl (ex_pick_true rfl h105 rfl) ?_
                            refine JL_nil ?_
                            refine N_then ?_
                            refine J_if_true rfl rfl ?_
                            refine J_seq ?_
                            refine J_region ?_
                            refine JL_q (wants_none rfl) rfl (ex_assign rfl) ?_
                            refine JL_nil ?_
                            refine N_then ?_
                            refine J_ret ?_
                            refine N_then_ret ?_
                            exact N_ret1 rfl (rv_tmp rfl) (fun w hh => ⟨(), rfl, hh.sel [] rfl⟩)
                          · refine JL_q (wants_some rfl rfl rfl h105) rfl (ex_move rfl) ?_
                            refine JL_q (wants_some rfl rfl rfl h105) rfl (ex_move rfl) ?_
                            refine JL_q (wants_some rfl rfl rfl h105) rfl (ex_neq rfl rfl) ?_
                            refine JL_q (wants_none rfl) rfl (ex_pick_false rfl h105 rfl) ?_
                            refine JL_nil ?_
                            refine N_then ?_
                            refine J_if rfl (fun h106 => ?_) (fun h106 => ?_)
                            · refine J_seq ?_
                              refine J_region ?_
                              refine JL_q (wants_none rfl) rfl (ex_assign rfl) ?_
                              refine JL_nil ?_
                              refine N_then ?_
                              refine J_ret ?_
                              refine N_then_ret ?_
                              exact N_ret1 rfl (rv_tmp rfl) (fun w hh => ⟨(), rfl, hh.sel [] rfl⟩)
                            · refine J_skip ?_
                              refine N_then ?_
                              refine J_seq ?_
                              refine J_region ?_
                              refine JL_q (wants_none rfl) rfl (ex_assign rfl) ?_
                              refine JL_nil ?_
                              refine N_then ?_
                              refine J_seq ?_
                              refine J_region ?_
                              refine JL_q (wants_none rfl) rfl (ex_move rfl) ?_
                              refine JL_q (wants_none rfl) rfl (ex_move rfl) ?_
                              refine JL_bnd fun r107 hr108 => ?_
                              refine JL_call (wants_none rfl) rfl Try.call21 rfl (Ca_of0 fun w hh => c_laws_heldInt64SS _ w (fun _ hk => hk.elim) _ _ (hh.rd0 6 rfl) _ _ hr108) (fun _ => ?_)
                              refine JL_q (wants_none rfl) rfl (ex_assign rfl) ?_
                              refine JL_nil ?_
                              refine N_then ?_
                              refine J_seq ?_
                              refine J_seq ?_
                              refine J_region ?_
                              refine JL_q (wants_none rfl) rfl (ex_move rfl) ?_
                              refine JL_q (wants_none rfl) rfl (ex_lss rfl rfl) ?_
                              refine JL_nil ?_
                              refine N_then ?_
                              refine J_if rfl (fun h109 => ?_) (fun h109 => ?_)
                              · refine J_seq ?_
                                refine J_region ?_
                                refine JL_q (wants_none rfl) rfl (ex_assign rfl) ?_
                                refine JL_nil ?_
                                refine N_then ?_
                                refine J_ret ?_
                                refine N_then_ret ?_
                                exact N_ret1 rfl (rv_tmp rfl) (fun w hh => ⟨(), rfl, hh.sel [] rfl⟩)
                              · refine J_skip ?_
                                refine N_then ?_
                                refine J_seq ?_
                                refine J_seq ?_
                                refine J_region ?_
                                refine JL_q (wants_none rfl) rfl (ex_move rfl) ?_
                                refine JL_q (wants_none rfl) rfl (ex_move rfl) ?_
                                refine JL_q (wants_none rfl) rfl (ex_neq rfl rfl) ?_
                                refine JL_nil ?_
                                refine N_then ?_
                                refine J_if rfl (fun h110 => ?_) (fun h110 => ?_)
                                · refine J_seq ?_
                                  refine J_region ?_
                                  refine JL_q (wants_none rfl) rfl (ex_assign rfl) ?_
                                  refine JL_nil ?_
                                  refine N_then ?_
                                  refine J_ret ?_
                                  refine N_then_ret ?_
                                  exact N_ret1 rfl (rv_tmp rfl) (fun w hh => ⟨(), rfl, hh.sel [] rfl⟩)
                                · refine J_skip ?_
                                  refine N_then ?_
                                  refine J_seq ?_
                                  refine J_region ?_
                                  refine JL_q (wants_none rfl) rfl (ex_assign rfl) ?_
                                  refine JL_nil ?_
                                  refine N_then ?_
                                  refine J_ret ?_
                                  exact N_ret1 rfl (rv_tmp rfl) (fun w hh => ⟨(), rfl, hh.sel [] rfl⟩)

end Go.Proofs.Ytfklpjdenigohaa
