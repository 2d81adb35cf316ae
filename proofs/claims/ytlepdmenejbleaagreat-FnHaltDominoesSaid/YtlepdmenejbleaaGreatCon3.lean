/-
  Each function of the program computes what its plain function says: printed by program. No condition.
-/
import Derived.Test.YtlepdmenejbleaaGreatFn
import Derived.Test.YtlepdmenejbleaaGreatInf
import Derived.Test.YtlepdmenejbleaaGreatCon1
import Derived.Test.YtlepdmenejbleaaGreatCon2
namespace Go.Proofs.YtlepdmenejbleaaGreat
open Go Go.Tc Go.Fn
set_option linter.unusedVariables false
set_option maxHeartbeats 40000000 in
theorem c_impl_eraserOf (A : Nat → Prop) (w : World) (hA : ∀ k, A k → k < w.heap.size) (v0_ : Value) (p0 : GMachine) (hp0 : Rd A w v0_ p0) (r : Galphabet × Int × Int) (hr : F_impl_eraserOf p0 = some r) :
  Con Tryz.prog 32 [v0_] A w (fun x_ : Unit => .tuple #[.agg #[.int .i64 r.1.state, .int .i64 r.1.border], .int .i64 r.2.1, .int .i64 r.2.2]) (fun x_ => []) := by
 obtain ⟨v0_0, rfl, hp0_0⟩ := GMachine.open hp0
 refine Con_of (v := fun (r : Galphabet × Int × Int) (x_ : Unit) => .tuple #[.agg #[.int .i64 r.1.state, .int .i64 r.1.border], .int .i64 r.2.1, .int .i64 r.2.2]) (fs := fun r x_ => []) Tryz.func32 rfl Tryz.ntmps32 rfl ((SH.start hA).start_rd rfl hp0_0) rfl ?_ hr
 unfold F_impl_eraserOf
 refine J_sr ?_
 refine JL_st wn rfl (st_box' rfl (fun w hh => (cv_aggs ⟨cv_int, cv_int, (hh.cv 0 rfl), trivial⟩))) (fun b1 => ?_)
 refine JL_st wn rfl (st_alloc zi_70 rfl) (fun b2 => ?_)
 refine JA rfl rfl ?_
 refine JA rfl rfl ?_
 refine JL_nt ?_
 refine J_sr ?_
 refine JL_q wn rfl (ex_load_bx_agg 1 ti_26 rfl rfl rfl rfl) ?_
 refine JL_bnd fun r3 hr4 => ?_
 refine JL_call wn rfl Tryz.call77 rfl (Ca_of0 fun w hh => c_impl_alphabetOf _ w (fun _ hk => hk.elim) _ _ (GMachine.rdmk (Rd.mk_int _ _ _) (Rd.mk_int _ _ _) (hh.rd0 2 rfl)) _ hr4) (fun _ => ?_)
 refine JM rfl rfl ?_
 refine JL_q wn rfl (ex_extract rfl rfl) ?_
 refine JL_q wn rfl (ex_extract rfl rfl) ?_
 refine JL_st wn rfl (st_alloc zi_70 rfl) (fun b5 => ?_)
 refine JL_sk wn (sk_store_bx' 0 ti_70 rfl rfl (fun w hh => (cv_aggs ⟨cv_int, cv_int, trivial⟩)) rfl rfl rfl rfl) ?_
 refine JA rfl rfl ?_
 refine JL_nt ?_
 refine J_seq ?_
 refine J_sr ?_
 refine JM rfl rfl ?_
 refine JL_q wn rfl (ex_neq rfl rfl) ?_
 refine JM rfl rfl ?_
 refine JL_cond (fun h6 => ?_) (fun h6 => ?_)
 ·refine JL_passed rfl rfl rfl h6 ?_
  refine JL_passed rfl rfl rfl h6 ?_
  refine JL_passed rfl rfl rfl h6 ?_
  refine JL_passed rfl rfl rfl h6 ?_
  refine JL_q wn rfl (ex_pick_true rfl h6 rfl) ?_
  refine JL_nt ?_
  refine J_if_true rfl rfl ?_
  refine J_sr ?_
  refine JL_q wn rfl (ex_build si_70 rfl .nil (fun w hh => trivial)) ?_
  refine JL_sk wn (sk_store_bx' 1 ti_70 rfl rfl (fun w hh => (cv_aggs ⟨cv_int, cv_int, trivial⟩)) rfl rfl rfl rfl) ?_
  refine JA rfl rfl ?_
  refine JA rfl rfl ?_
  refine JL_nt ?_
  refine J_ret ?_
  refine N_then_ret ?_
  exact N_ret3 rfl (rv_cell 1 rfl rfl ti_70 rfl) (rv_tmp rfl) (rv_tmp rfl) (fun w hh => ⟨(), rfl, hh.sel [] rfl⟩)
 ·refine JL_q (wants_some rfl rfl rfl h6) rfl (ex_fieldAddr fi_70_1 rfl rfl) ?_
  refine JL_q (wants_some rfl rfl rfl h6) rfl (ex_load_bx 0 ti_2 rfl rfl rfl) ?_
  refine JL_q (wants_some rfl rfl rfl h6) rfl (ex_add rfl rfl) ?_
  refine JL_q (wants_some rfl rfl rfl h6) rfl (ex_gtr rfl rfl) ?_
  refine JL_q wn rfl (ex_pick_false rfl h6 rfl) ?_
  refine JL_nt ?_
  refine J_if rfl (fun h7 => ?_) (fun h7 => ?_)
  ·refine J_sr ?_
   refine JL_q wn rfl (ex_build si_70 rfl .nil (fun w hh => trivial)) ?_
   refine JL_sk wn (sk_store_bx' 1 ti_70 rfl rfl (fun w hh => (cv_aggs ⟨cv_int, cv_int, trivial⟩)) rfl rfl rfl rfl) ?_
   refine JA rfl rfl ?_
   refine JA rfl rfl ?_
   refine JL_nt ?_
   refine J_ret ?_
   refine N_then_ret ?_
   exact N_ret3 rfl (rv_cell 1 rfl rfl ti_70 rfl) (rv_tmp rfl) (rv_tmp rfl) (fun w hh => ⟨(), rfl, hh.sel [] rfl⟩)
  ·refine J_skip ?_
   refine N_then ?_
   refine J_seq ?_
   refine J_draw [1] (by kernel_rfl) ?_
   refine JP_take (i := 0) [0, 2, 3] [1] rfl (by kernel_rfl) (by kernel_rfl) (by kernel_rfl) rfl rfl wn rfl (ex_load_bx_agg 0 ti_70 rfl rfl rfl rfl) ?_
   refine JP_take (i := 1) [0, 2, 3] [1] rfl (by kernel_rfl) (by kernel_rfl) (by kernel_rfl) rfl rfl wn rfl (ex_fieldAddr fi_70_1 rfl rfl) ?_
   refine JP_take (i := 2) [0, 2, 3] [1] rfl (by kernel_rfl) (by kernel_rfl) (by kernel_rfl) rfl rfl wn rfl (ex_load_bx 0 ti_2 rfl rfl rfl) ?_
   refine JP_take (i := 3) [0, 2, 3] [1] rfl (by kernel_rfl) (by kernel_rfl) (by kernel_rfl) rfl rfl wn rfl (ex_add rfl rfl) ?_
   refine JP_go [0, 2, 3] [1] rfl rfl rfl (fun w9 h1_10 hp8 => ?_)
   refine JD_one (i := 4) (by kernel_rfl) ?_
   refine JO_sk rfl wn (sk_store_bx' 1 ti_70 rfl rfl (fun w hh => (cv_aggs ⟨cv_int, cv_int, trivial⟩)) rfl rfl rfl rfl) (sub_bx 0 rfl) ?_
   refine JD_take (i := 5) hp8 rfl (by kernel_rfl) (by kernel_rfl) (by kernel_rfl) wn rfl (ex_assign rfl) ?_
   refine JD_take (i := 6) hp8 rfl (by kernel_rfl) (by kernel_rfl) (by kernel_rfl) wn rfl (ex_assign rfl) ?_
   refine JD_done (by kernel_rfl) ?_
   refine N_then ?_
   refine J_ret ?_
   exact N_ret3 rfl (rv_cell 1 rfl rfl ti_70 rfl) (rv_tmp rfl) (rv_tmp rfl) (fun w hh => ⟨(), rfl, hh.sel [] rfl⟩)
set_option maxHeartbeats 40000000 in
theorem c_impl_alphabet_rewritesOf (A : Nat → Prop) (w : World) (hA : ∀ k, A k → k < w.heap.size) (v0_ : Value) (p0 : Galphabet) (hp0 : Rd A w v0_ p0) (v1_ : Value) (p1 : GMachine) (hp1 : Rd A w v1_ p1) (p2 : Int) (p3 : Int) (v4_ : Value) (p4 : GRule) (hp4 : Rd A w v4_ p4) (r : (List GRewrite)) (hr : F_impl_alphabet_rewritesOf p0 p1 p2 p3 p4 = some r) :
  Con Tryz.prog 113 [v0_, v1_, .int .i64 p2, .int .i64 p3, v4_] A w (fun x_ : Value × List Nat => x_.1) (fun x_ => [.od 88 x_.1 r x_.2]) := by
 obtain rfl := Galphabet.open hp0
 obtain ⟨v1_0, rfl, hp1_0⟩ := GMachine.open hp1
 obtain rfl := GRule.open hp4
 refine Con_of (v := fun (r : (List GRewrite)) (x_ : Value × List Nat) => x_.1) (fs := fun r x_ => [.od 88 x_.1 r x_.2]) Tryz.func113 rfl Tryz.ntmps113 rfl ((SH.start hA).start_rd rfl hp1_0) rfl ?_ hr
 unfold F_impl_alphabet_rewritesOf
 refine J_sr ?_
 refine JL_st wn rfl (st_box' rfl (fun w hh => (cv_aggs ⟨cv_int, cv_int, trivial⟩))) (fun b1 => ?_)
 refine JL_st wn rfl (st_box' rfl (fun w hh => (cv_aggs ⟨cv_int, cv_int, (hh.cv 1 rfl), trivial⟩))) (fun b2 => ?_)
 refine JL_st wn rfl (st_box' rfl (fun w hh => (cv_aggs ⟨cv_int, cv_int, cv_int, trivial⟩))) (fun b3 => ?_)
 refine JA rfl rfl ?_
 refine JL_nt ?_
 refine J_seq ?_
 refine J_draw [] (by kernel_rfl) ?_
 refine JP_take (i := 0) [0, 1, 2, 3] [] rfl (by kernel_rfl) (by kernel_rfl) (by kernel_rfl) rfl rfl wn rfl (ex_fieldAddr fi_70_0 rfl rfl) ?_
 refine JP_take (i := 1) [0, 1, 2, 3] [] rfl (by kernel_rfl) (by kernel_rfl) (by kernel_rfl) rfl rfl wn rfl (ex_load_bx 2 ti_2 rfl rfl rfl) ?_
 refine JP_take (i := 2) [0, 1, 2, 3] [] rfl (by kernel_rfl) (by kernel_rfl) (by kernel_rfl) rfl rfl wn rfl (ex_move rfl) ?_
 refine JP_take (i := 3) [0, 1, 2, 3] [] rfl (by kernel_rfl) (by kernel_rfl) (by kernel_rfl) rfl rfl wn rfl (ex_add rfl rfl) ?_
 refine JP_take (i := 4) [0, 1, 2, 3] [] rfl (by kernel_rfl) (by kernel_rfl) (by kernel_rfl) rfl rfl wn rfl (ex_fieldAddr fi_70_0 rfl rfl) ?_
 refine JP_take (i := 5) [0, 1, 2, 3] [] rfl (by kernel_rfl) (by kernel_rfl) (by kernel_rfl) rfl rfl wn rfl (ex_load_bx 2 ti_2 rfl rfl rfl) ?_
 refine JP_take (i := 6) [0, 1, 2, 3] [] rfl (by kernel_rfl) (by kernel_rfl) (by kernel_rfl) rfl rfl wn rfl (ex_fieldAddr fi_105_2 rfl rfl) ?_
 refine JP_take (i := 7) [0, 1, 2, 3] [] rfl (by kernel_rfl) (by kernel_rfl) (by kernel_rfl) rfl rfl wn rfl (ex_load_bx 0 ti_2 rfl rfl rfl) ?_
 refine JP_take (i := 8) [0, 1, 2, 3] [] rfl (by kernel_rfl) (by kernel_rfl) (by kernel_rfl) rfl rfl wn rfl (ex_add rfl rfl) ?_
 refine JP_take (i := 9) [0, 1, 2, 3] [] rfl (by kernel_rfl) (by kernel_rfl) (by kernel_rfl) rfl rfl wn rfl (ex_fieldAddr fi_70_1 rfl rfl) ?_
 refine JP_take (i := 10) [0, 1, 2, 3] [] rfl (by kernel_rfl) (by kernel_rfl) (by kernel_rfl) rfl rfl wn rfl (ex_load_bx 2 ti_2 rfl rfl rfl) ?_
 refine JP_take (i := 11) [0, 1, 2, 3] [] rfl (by kernel_rfl) (by kernel_rfl) (by kernel_rfl) rfl rfl wn rfl (ex_assign rfl) ?_
 refine JP_take (i := 12) [0, 1, 2, 3] [] rfl (by kernel_rfl) (by kernel_rfl) (by kernel_rfl) rfl rfl wn rfl (ex_assign rfl) ?_
 refine JP_take (i := 13) [0, 1, 2, 3] [] rfl (by kernel_rfl) (by kernel_rfl) (by kernel_rfl) rfl rfl wn rfl (ex_assign rfl) ?_
 refine JP_go [] [] rfl rfl rfl (fun _ _ _ => ?_)
 refine JD_done (by kernel_rfl) ?_
 refine N_then ?_
 refine J_sr ?_
 refine JL_st wn rfl (st_buildSlice_od (vs := []) (B := ([] : List Nat)) ([] : List GRewrite) [] Tryz.underlying34 ti_88 zi_88 rfl rfl rfl rfl rfl (fun w hh => dwv_nil)) (fun b4 => ?_)
 refine JL_st wn rfl (st_alloc zi_34 rfl) (fun b5 => ?_)
 refine JL_sk wn (sk_store_bx' 0 ti_34 rfl rfl (fun w hh => (hh.cv_od 1 rfl)) rfl rfl rfl rfl) ?_
 refine JL_nt ?_
 refine J_sr ?_
 refine JL_q wn rfl (ex_makeFunc rfl) ?_
 refine JA rfl rfl ?_
 refine JL_nt ?_
 refine J_seq ?_
 refine J_sr ?_
 refine JL_q wn rfl (ex_fieldAddr fi_105_1 rfl rfl) ?_
 refine JL_q wn rfl (ex_load_bx 2 ti_2 rfl rfl rfl) ?_
 refine JL_q wn rfl (ex_eql rfl rfl) ?_
 refine JL_nt ?_
 refine J_if rfl (fun h6 => ?_) (fun h6 => ?_)
 ·refine J_sr ?_
  refine JM rfl rfl ?_
  refine JM rfl rfl ?_
  refine JM rfl rfl ?_
  refine JL_st wn rfl (st_buildSlice (vs := [.int .i64 (w64 (p0.state + p2)), .int .i64 p3]) ([(w64 (p0.state + p2)), p3] : List Int) Tryz.underlying27 ti_2 zi_2 rfl rfl rfl (fun w hh => ⟨(Rd.mk_int _ _ _), (Rd.mk_int _ _ _), trivial⟩)) (fun b7 => ?_)
  refine JL_q wn rfl (ex_fieldAddr fi_105_0 rfl rfl) ?_
  refine JL_q wn rfl (ex_load_bx 3 ti_2 rfl rfl rfl) ?_
  refine JM rfl rfl ?_
  refine JL_st wn rfl (st_buildSlice (vs := [.int .i64 p4.Write, .int .i64 (w64 (p0.state + p4.Next))]) ([p4.Write, (w64 (p0.state + p4.Next))] : List Int) Tryz.underlying27 ti_2 zi_2 rfl rfl rfl (fun w hh => ⟨(Rd.mk_int _ _ _), (Rd.mk_int _ _ _), trivial⟩)) (fun b8 => ?_)
  refine JL_inlinev (args := [_, _]) (caps := [.pointer (some ⟨b5, 0, none⟩)]) wn rfl Tryz.call126 rfl rfl Tryz.func126 rfl Tryz.ntmps126 rfl rfl (fun K_ hK9 => ?_)
  refine J_region ?_
  refine JL_q wn rfl (ex_load_bx 2 ti_34 rfl rfl rfl) ?_
  refine JM rfl rfl ?_
  refine JM rfl rfl ?_
  refine JL_q wn rfl (ex_build si_88 rfl (.cons fi_88_0 rfl rfl (.cons fi_88_1 rfl rfl .nil)) (fun w hh => ⟨(hh.cv_ow 1 rfl), (hh.cv_ow 0 rfl), trivial⟩)) ?_
  refine JL_ctx (fun w hh => hh.tokf 1 rfl rfl) ?_
  refine JL_ctx (fun w hh => hh.tokf 1 rfl rfl) ?_
  refine JL_st wn rfl (st_buildSlice_od (vs := [.agg #[(.slice (some ⟨b7, 0, none⟩) 2 2), (.slice (some ⟨b8, 0, none⟩) 2 2)]]) (B := ((((.slice (some ⟨b7, 0, none⟩) 2 2) : Value).ownBlock.toList ++ []) ++ ((((.slice (some ⟨b8, 0, none⟩) 2 2) : Value).ownBlock.toList ++ []) ++ []))) ([(⟨([(w64 (p0.state + p2)), p3] : List Int), ([p4.Write, (w64 (p0.state + p4.Next))] : List Int)⟩ : GRewrite)] : List GRewrite) [1, 0] Tryz.underlying34 ti_88 zi_88 rfl rfl rfl rfl rfl (fun w hh => (dwv_cons (GRewrite.dw (hh.dw 1 rfl) (hh.dw 0 rfl)) dwv_nil))) (fun b10 => ?_)
  refine JL_bnd fun z11 hz12 => ?_
  refine JL_st wn rfl (st_append_od 6 0 Tryz.underlying34 ti_88 zi_88 rfl bi_88 rfl rfl rfl rfl rfl rfl hz12) (fun v13 => ?_)
  refine JL_sk wn (sk_store_bx' 5 ti_34 rfl rfl (fun w hh => (hh.cv_od 6 rfl)) rfl rfl rfl rfl) ?_
  refine JL_nil ?_
  refine N_inl0 (.inr rfl) hK9 rfl ?_
  refine JL_nt ?_
  refine J_seq ?_
  refine J_cut' (S' := (List GRewrite)) (G' := Value × List Nat) (fun s14 g15 => [(14, .pointer (some ⟨b5, 0, none⟩))]) (fun s14 g15 => [.od 88 g15.1 s14 g15.2, .bx b5 34 [g15.1]]) ?_ (fun s14 g15 => ?_)
  ·refine J_sr ?_
   refine JM rfl rfl ?_
   refine JL_q wn rfl (ex_eql rfl rfl) ?_
   refine JL_nt ?_
   refine J_if rfl (fun h16 => ?_) (fun h16 => ?_)
   ·refine J_region ?_
    refine JM rfl rfl ?_
    refine JM rfl rfl ?_
    refine JM rfl rfl ?_
    refine JL_st wn rfl (st_buildSlice (vs := [.int .i64 (w64 (p0.state + p2)), .int .i64 p0.border]) ([(w64 (p0.state + p2)), p0.border] : List Int) Tryz.underlying27 ti_2 zi_2 rfl rfl rfl (fun w hh => ⟨(Rd.mk_int _ _ _), (Rd.mk_int _ _ _), trivial⟩)) (fun b17 => ?_)
    refine JL_q wn rfl (ex_fieldAddr fi_105_0 rfl rfl) ?_
    refine JL_q wn rfl (ex_load_bx 8 ti_2 rfl rfl rfl) ?_
    refine JM rfl rfl ?_
    refine JM rfl rfl ?_
    refine JL_st wn rfl (st_buildSlice (vs := [.int .i64 p4.Write, .int .i64 (w64 (p0.state + p4.Next)), .int .i64 p0.border]) ([p4.Write, (w64 (p0.state + p4.Next)), p0.border] : List Int) Tryz.underlying27 ti_2 zi_2 rfl rfl rfl (fun w hh => ⟨(Rd.mk_int _ _ _), (Rd.mk_int _ _ _), (Rd.mk_int _ _ _), trivial⟩)) (fun b18 => ?_)
    refine JL_inlinev (args := [_, _]) (caps := [.pointer (some ⟨b5, 0, none⟩)]) wn rfl Tryz.call126 rfl rfl Tryz.func126 rfl Tryz.ntmps126 rfl rfl (fun K_ hK19 => ?_)
    refine J_region ?_
    refine JL_q wn rfl (ex_load_bx 7 ti_34 rfl rfl rfl) ?_
    refine JM rfl rfl ?_
    refine JM rfl rfl ?_
    refine JL_q wn rfl (ex_build si_88 rfl (.cons fi_88_0 rfl rfl (.cons fi_88_1 rfl rfl .nil)) (fun w hh => ⟨(hh.cv_ow 1 rfl), (hh.cv_ow 0 rfl), trivial⟩)) ?_
    refine JL_ctx (fun w hh => hh.tokf 1 rfl rfl) ?_
    refine JL_ctx (fun w hh => hh.tokf 1 rfl rfl) ?_
    refine JL_st wn rfl (st_buildSlice_od (vs := [.agg #[(.slice (some ⟨b17, 0, none⟩) 2 2), (.slice (some ⟨b18, 0, none⟩) 3 3)]]) (B := ((((.slice (some ⟨b17, 0, none⟩) 2 2) : Value).ownBlock.toList ++ []) ++ ((((.slice (some ⟨b18, 0, none⟩) 3 3) : Value).ownBlock.toList ++ []) ++ []))) ([(⟨([(w64 (p0.state + p2)), p0.border] : List Int), ([p4.Write, (w64 (p0.state + p4.Next)), p0.border] : List Int)⟩ : GRewrite)] : List GRewrite) [1, 0] Tryz.underlying34 ti_88 zi_88 rfl rfl rfl rfl rfl (fun w hh => (dwv_cons (GRewrite.dw (hh.dw 1 rfl) (hh.dw 0 rfl)) dwv_nil))) (fun b20 => ?_)
    refine JL_bnd fun z21 hz22 => ?_
    refine JL_st wn rfl (st_append_od 11 0 Tryz.underlying34 ti_88 zi_88 rfl bi_88 rfl rfl rfl rfl rfl rfl hz22) (fun v23 => ?_)
    refine JL_sk wn (sk_store_bx' 10 ti_34 rfl rfl (fun w hh => (hh.cv_od 11 rfl)) rfl rfl rfl rfl) ?_
    refine JL_nil ?_
    refine N_inl0 (.inr rfl) hK19 rfl ?_
    refine JL_nil ?_
    exact N_meet' (v23, (([] ++ ((((.slice (some ⟨b7, 0, none⟩) 2 2) : Value).ownBlock.toList ++ []) ++ ((((.slice (some ⟨b8, 0, none⟩) 2 2) : Value).ownBlock.toList ++ []) ++ []))) ++ ((((.slice (some ⟨b17, 0, none⟩) 2 2) : Value).ownBlock.toList ++ []) ++ ((((.slice (some ⟨b18, 0, none⟩) 3 3) : Value).ownBlock.toList ++ []) ++ [])))) ⟨rfl, trivial⟩ [11, 10] rfl rfl
   ·refine J_skip ?_
    exact N_meet' (v13, ([] ++ ((((.slice (some ⟨b7, 0, none⟩) 2 2) : Value).ownBlock.toList ++ []) ++ ((((.slice (some ⟨b8, 0, none⟩) 2 2) : Value).ownBlock.toList ++ []) ++ [])))) ⟨rfl, trivial⟩ [6, 5] rfl rfl
  ·obtain ⟨g15_0, g15_1⟩ := g15
   refine N_then ?_
   refine J_sr ?_
   refine JL_q wn rfl (ex_load_bx 1 ti_34 rfl rfl rfl) ?_
   refine JA rfl rfl ?_
   refine JL_nt ?_
   refine J_ret ?_
   refine N_then_ret ?_
   exact N_ret1 rfl (rv_tmp rfl) (fun w hh => ⟨(g15_0, g15_1), rfl, hh.sel [0] rfl⟩)
 ·refine J_skip ?_
  refine N_then ?_
  refine J_seq ?_
  refine J_sr ?_
  refine JL_q wn rfl (ex_fieldAddr fi_26_0 rfl rfl) ?_
  refine JL_q wn rfl (ex_load_bx 3 ti_2 rfl rfl rfl) ?_
  refine JM rfl rfl ?_
  refine JL_nt ?_
  refine J_loop' (S := (List GRewrite) × Int) (G := Value × List Nat) (F_impl_alphabet_rewritesOf_L1 p0 p1 p2 p3 p4) (fun s24 g25 => [(3, .int .i64 p3), (6, .pointer (some ⟨b2, 0, none⟩)), (9, .pointer (some ⟨b3, 0, none⟩)), (11, .int .i64 (w64 (p0.state + p2))), (12, .int .i64 (w64 (p0.state + p4.Next))), (13, .int .i64 p0.border), (14, .pointer (some ⟨b5, 0, none⟩)), (15, .func (.func 126) #[] #[.pointer (some ⟨b5, 0, none⟩)]), (57, .int .i64 p1.Symbols), (58, .int .i64 s24.2)]) (fun s24 g25 => [.rd v1_0 p1.Rules, .bx b2 26 [.int .i64 p1.Symbols, .int .i64 p1.States, v1_0], .bx b3 105 [.int .i64 p4.Write, .int .i64 p4.Move, .int .i64 p4.Next], .od 88 g25.1 s24.1 g25.2, .bx b5 34 [g25.1]]) (([] : List GRewrite), 0) ((.slice (some ⟨b4, 0, none⟩) 0 0), ([] : List Nat)) ⟨rfl, rfl, rfl, rfl, rfl, rfl, rfl, rfl, rfl, rfl, trivial⟩ [5, 3, 2, 1, 0] rfl rfl (fun s24 g25 => ?_) (fun s24 g25 => ?_)
  ·obtain ⟨g25_0, g25_1⟩ := g25
   unfold F_impl_alphabet_rewritesOf_L1
   refine J_sr ?_
   refine JL_q wn rfl (ex_lss rfl rfl) ?_
   refine JL_nt ?_
   refine J_seq ?_
   refine J_if rfl (fun h26 => ?_) (fun h26 => ?_)
   ·refine J_skip ?_
    refine N_then ?_
    refine J_seq ?_
    refine J_block ?_
    refine J_sr ?_
    refine JM rfl rfl ?_
    refine JA rfl rfl ?_
    refine JL_nt ?_
    refine J_region ?_
    refine JM rfl rfl ?_
    refine JM rfl rfl ?_
    refine JM rfl rfl ?_
    refine JM rfl rfl ?_
    refine JL_st wn rfl (st_buildSlice (vs := [.int .i64 s24.2, .int .i64 (w64 (p0.state + p2)), .int .i64 p3]) ([s24.2, (w64 (p0.state + p2)), p3] : List Int) Tryz.underlying27 ti_2 zi_2 rfl rfl rfl (fun w hh => ⟨(Rd.mk_int _ _ _), (Rd.mk_int _ _ _), (Rd.mk_int _ _ _), trivial⟩)) (fun b27 => ?_)
    refine JM rfl rfl ?_
    refine JM rfl rfl ?_
    refine JL_q wn rfl (ex_fieldAddr fi_105_0 rfl rfl) ?_
    refine JL_q wn rfl (ex_load_bx 3 ti_2 rfl rfl rfl) ?_
    refine JL_st wn rfl (st_buildSlice (vs := [.int .i64 (w64 (p0.state + p4.Next)), .int .i64 s24.2, .int .i64 p4.Write]) ([(w64 (p0.state + p4.Next)), s24.2, p4.Write] : List Int) Tryz.underlying27 ti_2 zi_2 rfl rfl rfl (fun w hh => ⟨(Rd.mk_int _ _ _), (Rd.mk_int _ _ _), (Rd.mk_int _ _ _), trivial⟩)) (fun b28 => ?_)
    refine JL_inlinev (args := [_, _]) (caps := [.pointer (some ⟨b5, 0, none⟩)]) wn rfl Tryz.call126 rfl rfl Tryz.func126 rfl Tryz.ntmps126 rfl rfl (fun K_ hK29 => ?_)
    refine J_region ?_
    refine JL_q wn rfl (ex_load_bx 6 ti_34 rfl rfl rfl) ?_
    refine JM rfl rfl ?_
    refine JM rfl rfl ?_
    refine JL_q wn rfl (ex_build si_88 rfl (.cons fi_88_0 rfl rfl (.cons fi_88_1 rfl rfl .nil)) (fun w hh => ⟨(hh.cv_ow 1 rfl), (hh.cv_ow 0 rfl), trivial⟩)) ?_
    refine JL_ctx (fun w hh => hh.tokf 1 rfl rfl) ?_
    refine JL_ctx (fun w hh => hh.tokf 1 rfl rfl) ?_
    refine JL_st wn rfl (st_buildSlice_od (vs := [.agg #[(.slice (some ⟨b27, 0, none⟩) 3 3), (.slice (some ⟨b28, 0, none⟩) 3 3)]]) (B := ((((.slice (some ⟨b27, 0, none⟩) 3 3) : Value).ownBlock.toList ++ []) ++ ((((.slice (some ⟨b28, 0, none⟩) 3 3) : Value).ownBlock.toList ++ []) ++ []))) ([(⟨([s24.2, (w64 (p0.state + p2)), p3] : List Int), ([(w64 (p0.state + p4.Next)), s24.2, p4.Write] : List Int)⟩ : GRewrite)] : List GRewrite) [1, 0] Tryz.underlying34 ti_88 zi_88 rfl rfl rfl rfl rfl (fun w hh => (dwv_cons (GRewrite.dw (hh.dw 1 rfl) (hh.dw 0 rfl)) dwv_nil))) (fun b30 => ?_)
    refine JL_bnd fun z31 hz32 => ?_
    refine JL_st wn rfl (st_append_od 8 0 Tryz.underlying34 ti_88 zi_88 rfl bi_88 rfl rfl rfl rfl rfl rfl hz32) (fun v33 => ?_)
    refine JL_sk wn (sk_store_bx' 9 ti_34 rfl rfl (fun w hh => (hh.cv_od 8 rfl)) rfl rfl rfl rfl) ?_
    refine JL_nil ?_
    refine N_inl0 (.inr rfl) hK29 rfl ?_
    refine JL_nil ?_
    refine N_block ?_
    refine N_then ?_
    refine J_region ?_
    refine JL_q wn rfl (ex_add rfl rfl) ?_
    refine JM rfl rfl ?_
    refine JL_nil ?_
    exact N_next' (v33, (g25_1 ++ ((((.slice (some ⟨b27, 0, none⟩) 3 3) : Value).ownBlock.toList ++ []) ++ ((((.slice (some ⟨b28, 0, none⟩) 3 3) : Value).ownBlock.toList ++ []) ++ [])))) ⟨rfl, rfl, rfl, rfl, rfl, rfl, rfl, rfl, rfl, rfl, trivial⟩ [5, 6, 7, 8, 9] rfl rfl
   ·refine J_exit ?_
    refine N_then_exit ?_
    exact N_break' (g25_0, g25_1) ⟨rfl, rfl, rfl, rfl, rfl, rfl, rfl, rfl, rfl, rfl, trivial⟩ [0, 1, 2, 3, 4] rfl rfl
  ·obtain ⟨g25_0, g25_1⟩ := g25
   refine N_then ?_
   refine J_sr ?_
   refine JM rfl rfl ?_
   refine JM rfl rfl ?_
   refine JM rfl rfl ?_
   refine JM rfl rfl ?_
   refine JL_st wn rfl (st_buildSlice (vs := [.int .i64 p0.border, .int .i64 (w64 (p0.state + p2)), .int .i64 p3]) ([p0.border, (w64 (p0.state + p2)), p3] : List Int) Tryz.underlying27 ti_2 zi_2 rfl rfl rfl (fun w hh => ⟨(Rd.mk_int _ _ _), (Rd.mk_int _ _ _), (Rd.mk_int _ _ _), trivial⟩)) (fun b34 => ?_)
   refine JM rfl rfl ?_
   refine JM rfl rfl ?_
   refine JL_q wn rfl (ex_fieldAddr fi_105_0 rfl rfl) ?_
   refine JL_q wn rfl (ex_load_bx 3 ti_2 rfl rfl rfl) ?_
   refine JL_st wn rfl (st_buildSlice (vs := [.int .i64 p0.border, .int .i64 (w64 (p0.state + p4.Next)), .int .i64 0, .int .i64 p4.Write]) ([p0.border, (w64 (p0.state + p4.Next)), 0, p4.Write] : List Int) Tryz.underlying27 ti_2 zi_2 rfl rfl rfl (fun w hh => ⟨(Rd.mk_int _ _ _), (Rd.mk_int _ _ _), (Rd.mk_int _ _ _), (Rd.mk_int _ _ _), trivial⟩)) (fun b35 => ?_)
   refine JL_inlinev (args := [_, _]) (caps := [.pointer (some ⟨b5, 0, none⟩)]) wn rfl Tryz.call126 rfl rfl Tryz.func126 rfl Tryz.ntmps126 rfl rfl (fun K_ hK36 => ?_)
   refine J_region ?_
   refine JL_q wn rfl (ex_load_bx 6 ti_34 rfl rfl rfl) ?_
   refine JM rfl rfl ?_
   refine JM rfl rfl ?_
   refine JL_q wn rfl (ex_build si_88 rfl (.cons fi_88_0 rfl rfl (.cons fi_88_1 rfl rfl .nil)) (fun w hh => ⟨(hh.cv_ow 1 rfl), (hh.cv_ow 0 rfl), trivial⟩)) ?_
   refine JL_ctx (fun w hh => hh.tokf 1 rfl rfl) ?_
   refine JL_ctx (fun w hh => hh.tokf 1 rfl rfl) ?_
   refine JL_st wn rfl (st_buildSlice_od (vs := [.agg #[(.slice (some ⟨b34, 0, none⟩) 3 3), (.slice (some ⟨b35, 0, none⟩) 4 4)]]) (B := ((((.slice (some ⟨b34, 0, none⟩) 3 3) : Value).ownBlock.toList ++ []) ++ ((((.slice (some ⟨b35, 0, none⟩) 4 4) : Value).ownBlock.toList ++ []) ++ []))) ([(⟨([p0.border, (w64 (p0.state + p2)), p3] : List Int), ([p0.border, (w64 (p0.state + p4.Next)), 0, p4.Write] : List Int)⟩ : GRewrite)] : List GRewrite) [1, 0] Tryz.underlying34 ti_88 zi_88 rfl rfl rfl rfl rfl (fun w hh => (dwv_cons (GRewrite.dw (hh.dw 1 rfl) (hh.dw 0 rfl)) dwv_nil))) (fun b37 => ?_)
   refine JL_bnd fun z38 hz39 => ?_
   refine JL_st wn rfl (st_append_od 8 0 Tryz.underlying34 ti_88 zi_88 rfl bi_88 rfl rfl rfl rfl rfl rfl hz39) (fun v40 => ?_)
   refine JL_sk wn (sk_store_bx' 9 ti_34 rfl rfl (fun w hh => (hh.cv_od 8 rfl)) rfl rfl rfl rfl) ?_
   refine JL_nil ?_
   refine N_inl0 (.inr rfl) hK36 rfl ?_
   refine JL_nt ?_
   refine J_seq ?_
   refine J_sr ?_
   refine JM rfl rfl ?_
   refine JL_q wn rfl (ex_eql rfl rfl) ?_
   refine JL_nt ?_
   refine J_if rfl (fun h41 => ?_) (fun h41 => ?_)
   ·refine J_seq ?_
    refine J_sr ?_
    refine JL_q wn rfl (ex_fieldAddr fi_26_0 rfl rfl) ?_
    refine JL_q wn rfl (ex_load_bx 6 ti_2 rfl rfl rfl) ?_
    refine JM rfl rfl ?_
    refine JL_nt ?_
    refine J_loop' (S := (List GRewrite) × Int) (G := Value × List Nat) (F_impl_alphabet_rewritesOf_L2 p0 p1 p2 p4) (fun s42 g43 => [(9, .pointer (some ⟨b3, 0, none⟩)), (11, .int .i64 (w64 (p0.state + p2))), (12, .int .i64 (w64 (p0.state + p4.Next))), (13, .int .i64 p0.border), (14, .pointer (some ⟨b5, 0, none⟩)), (15, .func (.func 126) #[] #[.pointer (some ⟨b5, 0, none⟩)]), (87, .int .i64 p1.Symbols), (88, .int .i64 s42.2)]) (fun s42 g43 => [.bx b3 105 [.int .i64 p4.Write, .int .i64 p4.Move, .int .i64 p4.Next], .od 88 g43.1 s42.1 g43.2, .bx b5 34 [g43.1]]) (z38, 0) (v40, (g25_1 ++ ((((.slice (some ⟨b34, 0, none⟩) 3 3) : Value).ownBlock.toList ++ []) ++ ((((.slice (some ⟨b35, 0, none⟩) 4 4) : Value).ownBlock.toList ++ []) ++ [])))) ⟨rfl, rfl, rfl, rfl, rfl, rfl, rfl, rfl, trivial⟩ [7, 8, 9] rfl rfl (fun s42 g43 => ?_) (fun s42 g43 => ?_)
    ·obtain ⟨g43_0, g43_1⟩ := g43
     unfold F_impl_alphabet_rewritesOf_L2
     refine J_sr ?_
     refine JL_q wn rfl (ex_lss rfl rfl) ?_
     refine JL_nt ?_
     refine J_seq ?_
     refine J_if rfl (fun h44 => ?_) (fun h44 => ?_)
     ·refine J_skip ?_
      refine N_then ?_
      refine J_seq ?_
      refine J_block ?_
      refine J_sr ?_
      refine JM rfl rfl ?_
      refine JA rfl rfl ?_
      refine JL_nt ?_
      refine J_region ?_
      refine JM rfl rfl ?_
      refine JM rfl rfl ?_
      refine JM rfl rfl ?_
      refine JM rfl rfl ?_
      refine JL_st wn rfl (st_buildSlice (vs := [.int .i64 s42.2, .int .i64 (w64 (p0.state + p2)), .int .i64 p0.border]) ([s42.2, (w64 (p0.state + p2)), p0.border] : List Int) Tryz.underlying27 ti_2 zi_2 rfl rfl rfl (fun w hh => ⟨(Rd.mk_int _ _ _), (Rd.mk_int _ _ _), (Rd.mk_int _ _ _), trivial⟩)) (fun b45 => ?_)
      refine JM rfl rfl ?_
      refine JM rfl rfl ?_
      refine JL_q wn rfl (ex_fieldAddr fi_105_0 rfl rfl) ?_
      refine JL_q wn rfl (ex_load_bx 1 ti_2 rfl rfl rfl) ?_
      refine JM rfl rfl ?_
      refine JL_st wn rfl (st_buildSlice (vs := [.int .i64 (w64 (p0.state + p4.Next)), .int .i64 s42.2, .int .i64 p4.Write, .int .i64 p0.border]) ([(w64 (p0.state + p4.Next)), s42.2, p4.Write, p0.border] : List Int) Tryz.underlying27 ti_2 zi_2 rfl rfl rfl (fun w hh => ⟨(Rd.mk_int _ _ _), (Rd.mk_int _ _ _), (Rd.mk_int _ _ _), (Rd.mk_int _ _ _), trivial⟩)) (fun b46 => ?_)
      refine JL_inlinev (args := [_, _]) (caps := [.pointer (some ⟨b5, 0, none⟩)]) wn rfl Tryz.call126 rfl rfl Tryz.func126 rfl Tryz.ntmps126 rfl rfl (fun K_ hK47 => ?_)
      refine J_region ?_
      refine JL_q wn rfl (ex_load_bx 4 ti_34 rfl rfl rfl) ?_
      refine JM rfl rfl ?_
      refine JM rfl rfl ?_
      refine JL_q wn rfl (ex_build si_88 rfl (.cons fi_88_0 rfl rfl (.cons fi_88_1 rfl rfl .nil)) (fun w hh => ⟨(hh.cv_ow 1 rfl), (hh.cv_ow 0 rfl), trivial⟩)) ?_
      refine JL_ctx (fun w hh => hh.tokf 1 rfl rfl) ?_
      refine JL_ctx (fun w hh => hh.tokf 1 rfl rfl) ?_
      refine JL_st wn rfl (st_buildSlice_od (vs := [.agg #[(.slice (some ⟨b45, 0, none⟩) 3 3), (.slice (some ⟨b46, 0, none⟩) 4 4)]]) (B := ((((.slice (some ⟨b45, 0, none⟩) 3 3) : Value).ownBlock.toList ++ []) ++ ((((.slice (some ⟨b46, 0, none⟩) 4 4) : Value).ownBlock.toList ++ []) ++ []))) ([(⟨([s42.2, (w64 (p0.state + p2)), p0.border] : List Int), ([(w64 (p0.state + p4.Next)), s42.2, p4.Write, p0.border] : List Int)⟩ : GRewrite)] : List GRewrite) [1, 0] Tryz.underlying34 ti_88 zi_88 rfl rfl rfl rfl rfl (fun w hh => (dwv_cons (GRewrite.dw (hh.dw 1 rfl) (hh.dw 0 rfl)) dwv_nil))) (fun b48 => ?_)
      refine JL_bnd fun z49 hz50 => ?_
      refine JL_st wn rfl (st_append_od 6 0 Tryz.underlying34 ti_88 zi_88 rfl bi_88 rfl rfl rfl rfl rfl rfl hz50) (fun v51 => ?_)
      refine JL_sk wn (sk_store_bx' 7 ti_34 rfl rfl (fun w hh => (hh.cv_od 6 rfl)) rfl rfl rfl rfl) ?_
      refine JL_nil ?_
      refine N_inl0 (.inr rfl) hK47 rfl ?_
      refine JL_nil ?_
      refine N_block ?_
      refine N_then ?_
      refine J_region ?_
      refine JL_q wn rfl (ex_add rfl rfl) ?_
      refine JM rfl rfl ?_
      refine JL_nil ?_
      exact N_next' (v51, (g43_1 ++ ((((.slice (some ⟨b45, 0, none⟩) 3 3) : Value).ownBlock.toList ++ []) ++ ((((.slice (some ⟨b46, 0, none⟩) 4 4) : Value).ownBlock.toList ++ []) ++ [])))) ⟨rfl, rfl, rfl, rfl, rfl, rfl, rfl, rfl, trivial⟩ [5, 6, 7] rfl rfl
     ·refine J_exit ?_
      refine N_then_exit ?_
      exact N_break' (g43_0, g43_1) ⟨rfl, rfl, rfl, rfl, rfl, rfl, rfl, rfl, trivial⟩ [0, 1, 2] rfl rfl
    ·obtain ⟨g43_0, g43_1⟩ := g43
     refine N_then ?_
     refine J_region ?_
     refine JM rfl rfl ?_
     refine JM rfl rfl ?_
     refine JM rfl rfl ?_
     refine JM rfl rfl ?_
     refine JL_st wn rfl (st_buildSlice (vs := [.int .i64 p0.border, .int .i64 (w64 (p0.state + p2)), .int .i64 p0.border]) ([p0.border, (w64 (p0.state + p2)), p0.border] : List Int) Tryz.underlying27 ti_2 zi_2 rfl rfl rfl (fun w hh => ⟨(Rd.mk_int _ _ _), (Rd.mk_int _ _ _), (Rd.mk_int _ _ _), trivial⟩)) (fun b52 => ?_)
     refine JM rfl rfl ?_
     refine JM rfl rfl ?_
     refine JL_q wn rfl (ex_fieldAddr fi_105_0 rfl rfl) ?_
     refine JL_q wn rfl (ex_load_bx 1 ti_2 rfl rfl rfl) ?_
     refine JM rfl rfl ?_
     refine JL_st wn rfl (st_buildSlice (vs := [.int .i64 p0.border, .int .i64 (w64 (p0.state + p4.Next)), .int .i64 0, .int .i64 p4.Write, .int .i64 p0.border]) ([p0.border, (w64 (p0.state + p4.Next)), 0, p4.Write, p0.border] : List Int) Tryz.underlying27 ti_2 zi_2 rfl rfl rfl (fun w hh => ⟨(Rd.mk_int _ _ _), (Rd.mk_int _ _ _), (Rd.mk_int _ _ _), (Rd.mk_int _ _ _), (Rd.mk_int _ _ _), trivial⟩)) (fun b53 => ?_)
     refine JL_inlinev (args := [_, _]) (caps := [.pointer (some ⟨b5, 0, none⟩)]) wn rfl Tryz.call126 rfl rfl Tryz.func126 rfl Tryz.ntmps126 rfl rfl (fun K_ hK54 => ?_)
     refine J_region ?_
     refine JL_q wn rfl (ex_load_bx 4 ti_34 rfl rfl rfl) ?_
     refine JM rfl rfl ?_
     refine JM rfl rfl ?_
     refine JL_q wn rfl (ex_build si_88 rfl (.cons fi_88_0 rfl rfl (.cons fi_88_1 rfl rfl .nil)) (fun w hh => ⟨(hh.cv_ow 1 rfl), (hh.cv_ow 0 rfl), trivial⟩)) ?_
     refine JL_ctx (fun w hh => hh.tokf 1 rfl rfl) ?_
     refine JL_ctx (fun w hh => hh.tokf 1 rfl rfl) ?_
     refine JL_st wn rfl (st_buildSlice_od (vs := [.agg #[(.slice (some ⟨b52, 0, none⟩) 3 3), (.slice (some ⟨b53, 0, none⟩) 5 5)]]) (B := ((((.slice (some ⟨b52, 0, none⟩) 3 3) : Value).ownBlock.toList ++ []) ++ ((((.slice (some ⟨b53, 0, none⟩) 5 5) : Value).ownBlock.toList ++ []) ++ []))) ([(⟨([p0.border, (w64 (p0.state + p2)), p0.border] : List Int), ([p0.border, (w64 (p0.state + p4.Next)), 0, p4.Write, p0.border] : List Int)⟩ : GRewrite)] : List GRewrite) [1, 0] Tryz.underlying34 ti_88 zi_88 rfl rfl rfl rfl rfl (fun w hh => (dwv_cons (GRewrite.dw (hh.dw 1 rfl) (hh.dw 0 rfl)) dwv_nil))) (fun b55 => ?_)
     refine JL_bnd fun z56 hz57 => ?_
     refine JL_st wn rfl (st_append_od 6 0 Tryz.underlying34 ti_88 zi_88 rfl bi_88 rfl rfl rfl rfl rfl rfl hz57) (fun v58 => ?_)
     refine JL_sk wn (sk_store_bx' 7 ti_34 rfl rfl (fun w hh => (hh.cv_od 6 rfl)) rfl rfl rfl rfl) ?_
     refine JL_nil ?_
     refine N_inl0 (.inr rfl) hK54 rfl ?_
     refine JL_nt ?_
     refine J_sr ?_
     refine JL_q wn rfl (ex_load_bx 7 ti_34 rfl rfl rfl) ?_
     refine JA rfl rfl ?_
     refine JL_nt ?_
     refine J_ret ?_
     exact N_ret1 rfl (rv_tmp rfl) (fun w hh => ⟨(v58, (g43_1 ++ ((((.slice (some ⟨b52, 0, none⟩) 3 3) : Value).ownBlock.toList ++ []) ++ ((((.slice (some ⟨b53, 0, none⟩) 5 5) : Value).ownBlock.toList ++ []) ++ [])))), rfl, hh.sel [6] rfl⟩)
   ·refine J_skip ?_
    refine N_then ?_
    refine J_sr ?_
    refine JL_q wn rfl (ex_load_bx 9 ti_34 rfl rfl rfl) ?_
    refine JA rfl rfl ?_
    refine JL_nt ?_
    refine J_ret ?_
    exact N_ret1 rfl (rv_tmp rfl) (fun w hh => ⟨(v40, (g25_1 ++ ((((.slice (some ⟨b34, 0, none⟩) 3 3) : Value).ownBlock.toList ++ []) ++ ((((.slice (some ⟨b35, 0, none⟩) 4 4) : Value).ownBlock.toList ++ []) ++ [])))), rfl, hh.sel [8] rfl⟩)
set_option maxHeartbeats 40000000 in
theorem c_impl_alphabet_machineRewrites (A : Nat → Prop) (w : World) (hA : ∀ k, A k → k < w.heap.size) (v0_ : Value) (p0 : Galphabet) (hp0 : Rd A w v0_ p0) (v1_ : Value) (p1 : GMachine) (hp1 : Rd A w v1_ p1) (r : (List GRewrite)) (hr : F_impl_alphabet_machineRewrites p0 p1 = some r) :
  Con Tryz.prog 72 [v0_, v1_] A w (fun x_ : Value × List Nat => x_.1) (fun x_ => [.od 88 x_.1 r x_.2]) := by
 obtain rfl := Galphabet.open hp0
 obtain ⟨v1_0, rfl, hp1_0⟩ := GMachine.open hp1
 refine Con_of (v := fun (r : (List GRewrite)) (x_ : Value × List Nat) => x_.1) (fs := fun r x_ => [.od 88 x_.1 r x_.2]) Tryz.func72 rfl Tryz.ntmps72 rfl ((SH.start hA).start_rd rfl hp1_0) rfl ?_ hr
 unfold F_impl_alphabet_machineRewrites
 refine J_sr ?_
 refine JL_st wn rfl (st_box' rfl (fun w hh => (cv_aggs ⟨cv_int, cv_int, trivial⟩))) (fun b1 => ?_)
 refine JL_st wn rfl (st_box' rfl (fun w hh => (cv_aggs ⟨cv_int, cv_int, (hh.cv 1 rfl), trivial⟩))) (fun b2 => ?_)
 refine JA rfl rfl ?_
 refine JL_nt ?_
 refine J_sr ?_
 refine JL_st wn rfl (st_buildSlice_od (vs := []) (B := ([] : List Nat)) ([] : List GRewrite) [] Tryz.underlying34 ti_88 zi_88 rfl rfl rfl rfl rfl (fun w hh => dwv_nil)) (fun b3 => ?_)
 refine JA rfl rfl ?_
 refine JL_nt ?_
 refine J_seq ?_
 refine J_sr ?_
 refine JL_q wn rfl (ex_fieldAddr fi_26_2 rfl rfl) ?_
 refine JL_q wn rfl (ex_load_bx 1 ti_24 rfl rfl rfl) ?_
 refine JL_q wn rfl (ex_len_rd 3 Tryz.underlying24 rfl rfl) ?_
 refine JM rfl rfl ?_
 refine JL_nt ?_
 refine J_loop' (S := (List GRewrite) × Int) (G := Value × List Nat) (F_impl_alphabet_machineRewrites_L1 p0 p1) (fun s4 g5 => [(2, .pointer (some ⟨b1, 0, none⟩)), (3, .pointer (some ⟨b2, 0, none⟩)), (5, g5.1), (10, v1_0), (11, .int .i64 (p1.Rules.length : Int)), (12, .int .i64 s4.2)]) (fun s4 g5 => [.bx b1 70 [.int .i64 p0.state, .int .i64 p0.border], .rd v1_0 p1.Rules, .bx b2 26 [.int .i64 p1.Symbols, .int .i64 p1.States, v1_0], .od 88 g5.1 s4.1 g5.2]) (([] : List GRewrite), 0) ((.slice (some ⟨b3, 0, none⟩) 0 0), ([] : List Nat)) ⟨rfl, rfl, rfl, rfl, rfl, rfl, trivial⟩ [2, 3, 1, 0] rfl rfl (fun s4 g5 => ?_) (fun s4 g5 => ?_)
 ·obtain ⟨g5_0, g5_1⟩ := g5
  unfold F_impl_alphabet_machineRewrites_L1
  refine J_sr ?_
  refine JL_q wn rfl (ex_lss rfl rfl) ?_
  refine JL_nt ?_
  refine J_seq ?_
  refine J_if rfl (fun h6 => ?_) (fun h6 => ?_)
  ·refine J_skip ?_
   refine N_then ?_
   refine J_seq ?_
   refine J_block ?_
   refine J_sr ?_
   refine JM rfl rfl ?_
   refine JL_bnd fun y7 hy8 => ?_
   refine JL_st wn rfl (st_index 1 Tryz.underlying24 ti_105 rfl rfl rfl hy8) (fun q9 => ?_)
   refine JL_st wn rfl (st_load_pt_o 0 (GRule.opens _) ti_105 rfl rfl) (fun _ => ?_)
   refine JL_st wn rfl (st_alloc zi_105 rfl) (fun b11 => ?_)
   refine JA rfl rfl ?_
   refine JL_sk wn (sk_store_bx' 0 ti_105 rfl rfl (fun w hh => (cv_aggs ⟨cv_int, cv_int, cv_int, trivial⟩)) rfl rfl rfl rfl) ?_
   refine JL_nt ?_
   refine J_sr ?_
   refine JL_q wn rfl (ex_load_bx_agg 0 ti_105 rfl rfl rfl rfl) ?_
   refine JL_bnd fun r12 hr13 => ?_
   refine JL_call wn rfl Tryz.call110 rfl (Ca_of0 fun w hh => c_impl_isRule _ w (fun _ hk => hk.elim) _ _ (GRule.rdmk (Rd.mk_int _ _ _) (Rd.mk_int _ _ _) (Rd.mk_int _ _ _)) _ hr13) (fun _ => ?_)
   refine JL_nt ?_
   refine J_if rfl (fun h14 => ?_) (fun h14 => ?_)
   ·refine J_draw [5] (by kernel_rfl) ?_
    refine JP_take (i := 0) [0, 1, 2, 3, 4] [5] rfl (by kernel_rfl) (by kernel_rfl) (by kernel_rfl) rfl rfl wn rfl (ex_move rfl) ?_
    refine JP_take (i := 1) [0, 1, 2, 3, 4] [5] rfl (by kernel_rfl) (by kernel_rfl) (by kernel_rfl) rfl rfl wn rfl (ex_load_bx_agg 2 ti_70 rfl rfl rfl rfl) ?_
    refine JP_take (i := 2) [0, 1, 2, 3, 4] [5] rfl (by kernel_rfl) (by kernel_rfl) (by kernel_rfl) rfl rfl wn rfl (ex_load_bx_agg 4 ti_26 rfl rfl rfl rfl) ?_
    refine JP_take (i := 3) [0, 1, 2, 3, 4] [5] rfl (by kernel_rfl) (by kernel_rfl) (by kernel_rfl) rfl rfl wn rfl (ex_move rfl) ?_
    refine JP_take (i := 4) [0, 1, 2, 3, 4] [5] rfl (by kernel_rfl) (by kernel_rfl) (by kernel_rfl) rfl rfl wn rfl (ex_fieldAddr fi_26_0 rfl rfl) ?_
    refine JP_take (i := 5) [0, 1, 2, 3, 4] [5] rfl (by kernel_rfl) (by kernel_rfl) (by kernel_rfl) rfl rfl wn rfl (ex_load_bx 4 ti_2 rfl rfl rfl) ?_
    refine JP_bnd fun u15 hu16 => ?_
    refine JP_take (i := 6) [0, 1, 2, 3, 4] [5] rfl (by kernel_rfl) (by kernel_rfl) (by kernel_rfl) rfl rfl wn rfl (ex_quo rfl rfl (nz_ne hu16)) ?_
    refine JP_take (i := 7) [0, 1, 2, 3, 4] [5] rfl (by kernel_rfl) (by kernel_rfl) (by kernel_rfl) rfl rfl wn rfl (ex_move rfl) ?_
    refine JP_take (i := 8) [0, 1, 2, 3, 4] [5] rfl (by kernel_rfl) (by kernel_rfl) (by kernel_rfl) rfl rfl wn rfl (ex_fieldAddr fi_26_0 rfl rfl) ?_
    refine JP_take (i := 9) [0, 1, 2, 3, 4] [5] rfl (by kernel_rfl) (by kernel_rfl) (by kernel_rfl) rfl rfl wn rfl (ex_load_bx 4 ti_2 rfl rfl rfl) ?_
    refine JP_bnd fun u17 hu18 => ?_
    refine JP_take (i := 10) [0, 1, 2, 3, 4] [5] rfl (by kernel_rfl) (by kernel_rfl) (by kernel_rfl) rfl rfl wn rfl (ex_rem rfl rfl (nz_ne hu18)) ?_
    refine JP_take (i := 11) [0, 1, 2, 3, 4] [5] rfl (by kernel_rfl) (by kernel_rfl) (by kernel_rfl) rfl rfl wn rfl (ex_load_bx_agg 0 ti_105 rfl rfl rfl rfl) ?_
    refine JP_go [0, 1, 2, 3, 4] [5] rfl rfl rfl (fun w20 h1_21 hp19 => ?_)
    refine JD_bnd fun r22 hr23 => ?_
    refine JD_one (i := 12) (by kernel_rfl) ?_
    refine JO_call rfl wn rfl Tryz.call113 rfl (Ca_self (fun _ => rfl) fun w hh => c_impl_alphabet_rewritesOf _ w (fun _ hk => hk.elim) _ _ (Galphabet.rdmk (Rd.mk_int _ _ _) (Rd.mk_int _ _ _)) _ _ (GMachine.rdmk (Rd.mk_int _ _ _) (Rd.mk_int _ _ _) (hh.rd0 3 rfl)) _ _ _ _ (GRule.rdmk (Rd.mk_int _ _ _) (Rd.mk_int _ _ _) (Rd.mk_int _ _ _)) _ hr23) (fun x24 => ?_)
    obtain ⟨x24_0, x24_1⟩ := x24
    refine JD_bnd fun z25 hz26 => ?_
    refine JD_one (i := 13) (by kernel_rfl) ?_
    refine JO_st rfl wn rfl (st_append_od 6 0 Tryz.underlying34 ti_88 zi_88 rfl bi_88 rfl rfl rfl rfl rfl rfl hz26) (sub_od 0 rfl) (fun v27 => ?_)
    refine JD_take (i := 14) hp19 rfl (by kernel_rfl) (by kernel_rfl) (by kernel_rfl) wn rfl (ex_assign rfl) ?_
    refine JD_done (by kernel_rfl) ?_
    refine N_block ?_
    refine N_then ?_
    refine J_region ?_
    refine JL_q wn rfl (ex_add rfl rfl) ?_
    refine JM rfl rfl ?_
    refine JL_nil ?_
    exact N_next' (v27, (g5_1 ++ x24_1)) ⟨rfl, rfl, rfl, rfl, rfl, rfl, trivial⟩ [3, 4, 5, 6] rfl rfl
   ·refine J_skip ?_
    refine N_block ?_
    refine N_then ?_
    refine J_region ?_
    refine JL_q wn rfl (ex_add rfl rfl) ?_
    refine JM rfl rfl ?_
    refine JL_nil ?_
    exact N_next' (g5_0, g5_1) ⟨rfl, rfl, rfl, rfl, rfl, rfl, trivial⟩ [2, 3, 4, 5] rfl rfl
  ·refine J_exit ?_
   refine N_then_exit ?_
   exact N_break' (g5_0, g5_1) ⟨rfl, rfl, rfl, rfl, rfl, rfl, trivial⟩ [0, 1, 2, 3] rfl rfl
 ·obtain ⟨g5_0, g5_1⟩ := g5
  refine N_then ?_
  refine J_sr ?_
  refine JM rfl rfl ?_
  refine JA rfl rfl ?_
  refine JL_nt ?_
  refine J_ret ?_
  exact N_ret1 rfl (rv_tmp rfl) (fun w hh => ⟨(g5_0, g5_1), rfl, hh.sel [3] rfl⟩)
set_option maxHeartbeats 40000000 in
theorem c_impl_freeRules (A : Nat → Prop) (w : World) (hA : ∀ k, A k → k < w.heap.size) (v0_ : Value) (p0 : GMachine) (hp0 : Rd A w v0_ p0) (r : (List Int)) (hr : F_impl_freeRules p0 = some r) :
  Con Tryz.prog 74 [v0_] A w (fun x_ : Value => x_) (fun x_ => [.ow 2 x_ r]) := by
 obtain ⟨v0_0, rfl, hp0_0⟩ := GMachine.open hp0
 refine Con_of (v := fun (r : (List Int)) (x_ : Value) => x_) (fs := fun r x_ => [.ow 2 x_ r]) Tryz.func74 rfl Tryz.ntmps74 rfl ((SH.start hA).start_rd rfl hp0_0) rfl ?_ hr
 unfold F_impl_freeRules
 refine J_sr ?_
 refine JL_st wn rfl (st_box' rfl (fun w hh => (cv_aggs ⟨cv_int, cv_int, (hh.cv 0 rfl), trivial⟩))) (fun b1 => ?_)
 refine JA rfl rfl ?_
 refine JL_nt ?_
 refine J_sr ?_
 refine JL_st wn rfl (st_buildSlice (vs := []) ([] : List Int) Tryz.underlying27 ti_2 zi_2 rfl rfl rfl (fun w hh => trivial)) (fun b2 => ?_)
 refine JA rfl rfl ?_
 refine JL_nt ?_
 refine J_seq ?_
 refine J_sr ?_
 refine JL_q wn rfl (ex_fieldAddr fi_26_2 rfl rfl) ?_
 refine JL_q wn rfl (ex_load_bx 1 ti_24 rfl rfl rfl) ?_
 refine JL_q wn rfl (ex_len_rd 2 Tryz.underlying24 rfl rfl) ?_
 refine JM rfl rfl ?_
 refine JL_nt ?_
 refine J_loop' (S := (List Int) × Int) (G := Value) (F_impl_freeRules_L1 p0) (fun s3 g4 => [(3, g4), (8, v0_0), (9, .int .i64 (p0.Rules.length : Int)), (10, .int .i64 s3.2)]) (fun s3 g4 => [.ow 2 g4 s3.1, .rd v0_0 p0.Rules]) (([] : List Int), 0) (.slice (some ⟨b2, 0, none⟩) 0 0) ⟨rfl, rfl, rfl, rfl, trivial⟩ [0, 2] rfl rfl (fun s3 g4 => ?_) (fun s3 g4 => ?_)
 ·unfold F_impl_freeRules_L1
  refine J_sr ?_
  refine JL_q wn rfl (ex_lss rfl rfl) ?_
  refine JL_nt ?_
  refine J_seq ?_
  refine J_if rfl (fun h5 => ?_) (fun h5 => ?_)
  ·refine J_skip ?_
   refine N_then ?_
   refine J_seq ?_
   refine J_block ?_
   refine J_sr ?_
   refine JM rfl rfl ?_
   refine JL_bnd fun y6 hy7 => ?_
   refine JL_st wn rfl (st_index 1 Tryz.underlying24 ti_105 rfl rfl rfl hy7) (fun q8 => ?_)
   refine JL_st wn rfl (st_load_pt_o 0 (GRule.opens _) ti_105 rfl rfl) (fun _ => ?_)
   refine JL_st wn rfl (st_alloc zi_105 rfl) (fun b10 => ?_)
   refine JA rfl rfl ?_
   refine JL_sk wn (sk_store_bx' 0 ti_105 rfl rfl (fun w hh => (cv_aggs ⟨cv_int, cv_int, cv_int, trivial⟩)) rfl rfl rfl rfl) ?_
   refine JL_nt ?_
   refine J_sr ?_
   refine JL_q wn rfl (ex_load_bx_agg 0 ti_105 rfl rfl rfl rfl) ?_
   refine JL_bnd fun r11 hr12 => ?_
   refine JL_call wn rfl Tryz.call110 rfl (Ca_of0 fun w hh => c_impl_isRule _ w (fun _ hk => hk.elim) _ _ (GRule.rdmk (Rd.mk_int _ _ _) (Rd.mk_int _ _ _) (Rd.mk_int _ _ _)) _ hr12) (fun _ => ?_)
   refine JL_q wn rfl (ex_not rfl) ?_
   refine JL_nt ?_
   refine J_if rfl (fun h13 => ?_) (fun h13 => ?_)
   ·refine J_region ?_
    refine JM rfl rfl ?_
    refine JM rfl rfl ?_
    refine JL_st wn rfl (st_buildSlice (vs := [.int .i64 s3.2]) ([s3.2] : List Int) Tryz.underlying27 ti_2 zi_2 rfl rfl rfl (fun w hh => ⟨(Rd.mk_int _ _ _), trivial⟩)) (fun b14 => ?_)
    refine JL_bnd fun z15 hz16 => ?_
    refine JL_st wn rfl (st_append 3 Tryz.underlying27 ti_2 zi_2 rfl bi_2 rfl rfl rfl rfl (fun w hh => hh.src_ow 0 rfl) hz16) (fun v17 => ?_)
    refine JA rfl rfl ?_
    refine JL_nil ?_
    refine N_block ?_
    refine N_then ?_
    refine J_region ?_
    refine JL_q wn rfl (ex_add rfl rfl) ?_
    refine JM rfl rfl ?_
    refine JL_nil ?_
    exact N_next' v17 ⟨rfl, rfl, rfl, rfl, trivial⟩ [3, 4] rfl rfl
   ·refine J_skip ?_
    refine N_block ?_
    refine N_then ?_
    refine J_region ?_
    refine JL_q wn rfl (ex_add rfl rfl) ?_
    refine JM rfl rfl ?_
    refine JL_nil ?_
    exact N_next' g4 ⟨rfl, rfl, rfl, rfl, trivial⟩ [2, 3] rfl rfl
  ·refine J_exit ?_
   refine N_then_exit ?_
   exact N_break' g4 ⟨rfl, rfl, rfl, rfl, trivial⟩ [0, 1] rfl rfl
 ·refine N_then ?_
  refine J_sr ?_
  refine JM rfl rfl ?_
  refine JA rfl rfl ?_
  refine JL_nt ?_
  refine J_ret ?_
  exact N_ret1 rfl (rv_tmp rfl) (fun w hh => ⟨g4, rfl, hh.sel [0] rfl⟩)
set_option maxHeartbeats 40000000 in
theorem c_impl_haltRewrites (A : Nat → Prop) (w : World) (hA : ∀ k, A k → k < w.heap.size) (v0_ : Value) (p0 : GMachine) (hp0 : Rd A w v0_ p0) (r : (List GRewrite) × Int × Int) (hr : F_impl_haltRewrites p0 = some r) :
  Con Tryz.prog 29 [v0_] A w (fun x_ : Value × List Nat => .tuple #[x_.1, .int .i64 r.2.1, .int .i64 r.2.2]) (fun x_ => [.od 88 x_.1 r.1 x_.2]) := by
 obtain ⟨v0_0, rfl, hp0_0⟩ := GMachine.open hp0
 refine Con_of (v := fun (r : (List GRewrite) × Int × Int) (x_ : Value × List Nat) => .tuple #[x_.1, .int .i64 r.2.1, .int .i64 r.2.2]) (fs := fun r x_ => [.od 88 x_.1 r.1 x_.2]) Tryz.func29 rfl Tryz.ntmps29 rfl ((SH.start hA).start_rd rfl hp0_0) rfl ?_ hr
 unfold F_impl_haltRewrites
 refine J_sr ?_
 refine JL_st wn rfl (st_box' rfl (fun w hh => (cv_aggs ⟨cv_int, cv_int, (hh.cv 0 rfl), trivial⟩))) (fun b1 => ?_)
 refine JA rfl rfl ?_
 refine JA rfl rfl ?_
 refine JA rfl rfl ?_
 refine JL_nt ?_
 refine J_sr ?_
 refine JL_q wn rfl (ex_load_bx_agg 0 ti_26 rfl rfl rfl rfl) ?_
 refine JL_bnd fun r2 hr3 => ?_
 refine JL_call wn rfl Tryz.call32 rfl (Ca_of0 fun w hh => c_impl_eraserOf _ w (fun _ hk => hk.elim) _ _ (GMachine.rdmk (Rd.mk_int _ _ _) (Rd.mk_int _ _ _) (hh.rd0 1 rfl)) _ hr3) (fun _ => ?_)
 refine JM rfl rfl ?_
 refine JL_q wn rfl (ex_extract rfl rfl) ?_
 refine JL_q wn rfl (ex_extract rfl rfl) ?_
 refine JL_q wn rfl (ex_extract rfl rfl) ?_
 refine JL_st wn rfl (st_alloc zi_70 rfl) (fun b4 => ?_)
 refine JL_sk wn (sk_store_bx' 0 ti_70 rfl rfl (fun w hh => (cv_aggs ⟨cv_int, cv_int, trivial⟩)) rfl rfl rfl rfl) ?_
 refine JA rfl rfl ?_
 refine JA rfl rfl ?_
 refine JL_nt ?_
 refine J_seq ?_
 refine J_sr ?_
 refine JM rfl rfl ?_
 refine JL_q wn rfl (ex_neq rfl rfl) ?_
 refine JL_nt ?_
 refine J_if rfl (fun h5 => ?_) (fun h5 => ?_)
 ·refine J_sr ?_
  refine JM rfl rfl ?_
  refine JA rfl rfl ?_
  refine JA rfl rfl ?_
  refine JA rfl rfl ?_
  refine JL_nt ?_
  refine J_ret ?_
  refine N_then_ret ?_
  refine N_ctx (fun w hh => SH.od_nil (α := GRewrite) 88 hh) ?_
  exact N_ret3 rfl (rv_tmp rfl) (rv_tmp rfl) (rv_tmp rfl) (fun w hh => ⟨((.slice none 0 0 : Value), ([] : List Nat)), rfl, hh.sel [0] rfl⟩)
 ·refine J_skip ?_
  refine N_then ?_
  refine J_sr ?_
  refine JL_q wn rfl (ex_load_bx_agg 0 ti_70 rfl rfl rfl rfl) ?_
  refine JL_q wn rfl (ex_load_bx_agg 1 ti_26 rfl rfl rfl rfl) ?_
  refine JL_bnd fun r6 hr7 => ?_
  refine JL_call wn rfl Tryz.call72 rfl (Ca_self (fun _ => rfl) fun w hh => c_impl_alphabet_machineRewrites _ w (fun _ hk => hk.elim) _ _ (Galphabet.rdmk (Rd.mk_int _ _ _) (Rd.mk_int _ _ _)) _ _ (GMachine.rdmk (Rd.mk_int _ _ _) (Rd.mk_int _ _ _) (hh.rd0 2 rfl)) _ hr7) (fun x8 => ?_)
  obtain ⟨x8_0, x8_1⟩ := x8
  refine JL_st wn rfl (st_alloc zi_34 rfl) (fun b9 => ?_)
  refine JL_sk wn (sk_store_bx' 0 ti_34 rfl rfl (fun w hh => (hh.cv_od 1 rfl)) rfl rfl rfl rfl) ?_
  refine JL_nt ?_
  refine J_sr ?_
  refine JL_q wn rfl (ex_load_bx 0 ti_34 rfl rfl rfl) ?_
  refine JL_q wn rfl (ex_od 1 rfl (ex_len_ow 1 Tryz.underlying34 rfl rfl)) ?_
  refine JA rfl rfl ?_
  refine JL_nt ?_
  refine J_sr ?_
  refine JL_q wn rfl (ex_makeFunc rfl) ?_
  refine JA rfl rfl ?_
  refine JL_nt ?_
  refine J_seq ?_
  refine J_sr ?_
  refine JL_q wn rfl (ex_load_bx_agg 3 ti_26 rfl rfl rfl rfl) ?_
  refine JL_bnd fun r10 hr11 => ?_
  refine JL_call wn rfl Tryz.call74 rfl (Ca_self (fun _ => rfl) fun w hh => c_impl_freeRules _ w (fun _ hk => hk.elim) _ _ (GMachine.rdmk (Rd.mk_int _ _ _) (Rd.mk_int _ _ _) (hh.rd0 4 rfl)) _ hr11) (fun x12 => ?_)
  refine JL_q wn rfl (ex_len_ow 0 Tryz.underlying27 rfl rfl) ?_
  refine JM rfl rfl ?_
  refine JL_nt ?_
  refine J_loop' (S := (List GRewrite) × Int) (G := Value × List Nat) (F_impl_haltRewrites_L1 p0 r2 r10) (fun s13 g14 => [(1, .pointer (some ⟨b1, 0, none⟩)), (5, .pointer (some ⟨b4, 0, none⟩)), (6, .int .i64 r2.2.1), (8, .pointer (some ⟨b9, 0, none⟩)), (9, .int .i64 (r6.length : Int)), (10, .func (.func 73) #[] #[.pointer (some ⟨b9, 0, none⟩)]), (32, x12), (33, .int .i64 (r10.length : Int)), (34, .int .i64 s13.2)]) (fun s13 g14 => [.rd v0_0 p0.Rules, .bx b1 26 [.int .i64 p0.Symbols, .int .i64 p0.States, v0_0], .bx b4 70 [.int .i64 r2.1.state, .int .i64 r2.1.border], .od 88 g14.1 s13.1 g14.2, .bx b9 34 [g14.1], .ow 2 x12 r10]) (r6, 0) (x8_0, x8_1) ⟨rfl, rfl, rfl, rfl, rfl, rfl, rfl, rfl, rfl, trivial⟩ [5, 4, 3, 2, 1, 0] rfl rfl (fun s13 g14 => ?_) (fun s13 g14 => ?_)
  ·obtain ⟨g14_0, g14_1⟩ := g14
   unfold F_impl_haltRewrites_L1
   refine J_sr ?_
   refine JL_q wn rfl (ex_lss rfl rfl) ?_
   refine JL_nt ?_
   refine J_seq ?_
   refine J_if rfl (fun h15 => ?_) (fun h15 => ?_)
   ·refine J_skip ?_
    refine N_then ?_
    refine J_seq ?_
    refine J_block ?_
    refine J_sr ?_
    refine JL_bnd fun y16 hy17 => ?_
    refine JL_ow_open (v := x12) 5 rfl hy17 ?_; rintro b18 cap19 rfl
    refine JL_q wn rfl (ex_index_ow 5 Tryz.underlying27 ti_2 rfl rfl rfl hy17) ?_
    refine JL_q wn rfl (ex_load_ow_int 5 ti_2 rfl rfl hy17) ?_
    refine JA rfl rfl ?_
    refine JL_nt ?_
    refine J_seq ?_
    refine J_draw [] (by kernel_rfl) ?_
    refine JP_take (i := 0) [0, 1, 2, 3, 4, 5] [] rfl (by kernel_rfl) (by kernel_rfl) (by kernel_rfl) rfl rfl wn rfl (ex_fieldAddr fi_70_0 rfl rfl) ?_
    refine JP_take (i := 1) [0, 1, 2, 3, 4, 5] [] rfl (by kernel_rfl) (by kernel_rfl) (by kernel_rfl) rfl rfl wn rfl (ex_load_bx 2 ti_2 rfl rfl rfl) ?_
    refine JP_take (i := 2) [0, 1, 2, 3, 4, 5] [] rfl (by kernel_rfl) (by kernel_rfl) (by kernel_rfl) rfl rfl wn rfl (ex_move rfl) ?_
    refine JP_take (i := 3) [0, 1, 2, 3, 4, 5] [] rfl (by kernel_rfl) (by kernel_rfl) (by kernel_rfl) rfl rfl wn rfl (ex_fieldAddr fi_26_0 rfl rfl) ?_
    refine JP_take (i := 4) [0, 1, 2, 3, 4, 5] [] rfl (by kernel_rfl) (by kernel_rfl) (by kernel_rfl) rfl rfl wn rfl (ex_load_bx 1 ti_2 rfl rfl rfl) ?_
    refine JP_bnd fun u21 hu22 => ?_
    refine JP_take (i := 5) [0, 1, 2, 3, 4, 5] [] rfl (by kernel_rfl) (by kernel_rfl) (by kernel_rfl) rfl rfl wn rfl (ex_quo rfl rfl (nz_ne hu22)) ?_
    refine JP_take (i := 6) [0, 1, 2, 3, 4, 5] [] rfl (by kernel_rfl) (by kernel_rfl) (by kernel_rfl) rfl rfl wn rfl (ex_add rfl rfl) ?_
    refine JP_take (i := 7) [0, 1, 2, 3, 4, 5] [] rfl (by kernel_rfl) (by kernel_rfl) (by kernel_rfl) rfl rfl wn rfl (ex_move rfl) ?_
    refine JP_take (i := 8) [0, 1, 2, 3, 4, 5] [] rfl (by kernel_rfl) (by kernel_rfl) (by kernel_rfl) rfl rfl wn rfl (ex_fieldAddr fi_26_0 rfl rfl) ?_
    refine JP_take (i := 9) [0, 1, 2, 3, 4, 5] [] rfl (by kernel_rfl) (by kernel_rfl) (by kernel_rfl) rfl rfl wn rfl (ex_load_bx 1 ti_2 rfl rfl rfl) ?_
    refine JP_bnd fun u23 hu24 => ?_
    refine JP_take (i := 10) [0, 1, 2, 3, 4, 5] [] rfl (by kernel_rfl) (by kernel_rfl) (by kernel_rfl) rfl rfl wn rfl (ex_rem rfl rfl (nz_ne hu24)) ?_
    refine JP_take (i := 11) [0, 1, 2, 3, 4, 5] [] rfl (by kernel_rfl) (by kernel_rfl) (by kernel_rfl) rfl rfl wn rfl (ex_assign rfl) ?_
    refine JP_take (i := 12) [0, 1, 2, 3, 4, 5] [] rfl (by kernel_rfl) (by kernel_rfl) (by kernel_rfl) rfl rfl wn rfl (ex_assign rfl) ?_
    refine JP_go [] [] rfl rfl rfl (fun _ _ _ => ?_)
    refine JD_done (by kernel_rfl) ?_
    refine N_then ?_
    refine J_sr ?_
    refine JM rfl rfl ?_
    refine JM rfl rfl ?_
    refine JL_st wn rfl (st_buildSlice (vs := [.int .i64 r2.2.1]) ([r2.2.1] : List Int) Tryz.underlying27 ti_2 zi_2 rfl rfl rfl (fun w hh => ⟨(Rd.mk_int _ _ _), trivial⟩)) (fun b25 => ?_)
    refine JM rfl rfl ?_
    refine JM rfl rfl ?_
    refine JL_st wn rfl (st_buildSlice (vs := [.int .i64 (w64 (r2.1.state + (w64 (Int.tdiv y16 p0.Symbols)))), .int .i64 (Int.tmod y16 p0.Symbols)]) ([(w64 (r2.1.state + (w64 (Int.tdiv y16 p0.Symbols)))), (Int.tmod y16 p0.Symbols)] : List Int) Tryz.underlying27 ti_2 zi_2 rfl rfl rfl (fun w hh => ⟨(Rd.mk_int _ _ _), (Rd.mk_int _ _ _), trivial⟩)) (fun b26 => ?_)
    refine JL_inlinev (args := [_, _]) (caps := [.pointer (some ⟨b9, 0, none⟩)]) wn rfl Tryz.call73 rfl rfl Tryz.func73 rfl Tryz.ntmps73 rfl rfl (fun K_ hK27 => ?_)
    refine J_region ?_
    refine JL_q wn rfl (ex_load_bx 6 ti_34 rfl rfl rfl) ?_
    refine JM rfl rfl ?_
    refine JM rfl rfl ?_
    refine JL_q wn rfl (ex_build si_88 rfl (.cons fi_88_0 rfl rfl (.cons fi_88_1 rfl rfl .nil)) (fun w hh => ⟨(hh.cv_ow 0 rfl), (hh.cv_ow 1 rfl), trivial⟩)) ?_
    refine JL_ctx (fun w hh => hh.tokf 0 rfl rfl) ?_
    refine JL_ctx (fun w hh => hh.tokf 2 rfl rfl) ?_
    refine JL_st wn rfl (st_buildSlice_od (vs := [.agg #[(.slice (some ⟨b26, 0, none⟩) 2 2), (.slice (some ⟨b25, 0, none⟩) 1 1)]]) (B := ((((.slice (some ⟨b26, 0, none⟩) 2 2) : Value).ownBlock.toList ++ []) ++ ((((.slice (some ⟨b25, 0, none⟩) 1 1) : Value).ownBlock.toList ++ []) ++ []))) ([(⟨([(w64 (r2.1.state + (w64 (Int.tdiv y16 p0.Symbols)))), (Int.tmod y16 p0.Symbols)] : List Int), ([r2.2.1] : List Int)⟩ : GRewrite)] : List GRewrite) [1, 0] Tryz.underlying34 ti_88 zi_88 rfl rfl rfl rfl rfl (fun w hh => (dwv_cons (GRewrite.dw (hh.dw 1 rfl) (hh.dw 0 rfl)) dwv_nil))) (fun b28 => ?_)
    refine JL_bnd fun z29 hz30 => ?_
    refine JL_st wn rfl (st_append_od 8 0 Tryz.underlying34 ti_88 zi_88 rfl bi_88 rfl rfl rfl rfl rfl rfl hz30) (fun v31 => ?_)
    refine JL_sk wn (sk_store_bx' 9 ti_34 rfl rfl (fun w hh => (hh.cv_od 8 rfl)) rfl rfl rfl rfl) ?_
    refine JL_nil ?_
    refine N_inl0 (.inr rfl) hK27 rfl ?_
    refine JL_nt ?_
    refine J_sr ?_
    refine JM rfl rfl ?_
    refine JL_q wn rfl (ex_eql rfl rfl) ?_
    refine JL_nt ?_
    refine J_if rfl (fun h32 => ?_) (fun h32 => ?_)
    ·refine J_region ?_
     refine JM rfl rfl ?_
     refine JM rfl rfl ?_
     refine JL_q wn rfl (ex_fieldAddr fi_70_1 rfl rfl) ?_
     refine JL_q wn rfl (ex_load_bx 7 ti_2 rfl rfl rfl) ?_
     refine JL_st wn rfl (st_buildSlice (vs := [.int .i64 r2.2.1, .int .i64 r2.1.border]) ([r2.2.1, r2.1.border] : List Int) Tryz.underlying27 ti_2 zi_2 rfl rfl rfl (fun w hh => ⟨(Rd.mk_int _ _ _), (Rd.mk_int _ _ _), trivial⟩)) (fun b33 => ?_)
     refine JM rfl rfl ?_
     refine JL_q wn rfl (ex_fieldAddr fi_70_1 rfl rfl) ?_
     refine JL_q wn rfl (ex_load_bx 8 ti_2 rfl rfl rfl) ?_
     refine JL_st wn rfl (st_buildSlice (vs := [.int .i64 (w64 (r2.1.state + (w64 (Int.tdiv y16 p0.Symbols)))), .int .i64 r2.1.border]) ([(w64 (r2.1.state + (w64 (Int.tdiv y16 p0.Symbols)))), r2.1.border] : List Int) Tryz.underlying27 ti_2 zi_2 rfl rfl rfl (fun w hh => ⟨(Rd.mk_int _ _ _), (Rd.mk_int _ _ _), trivial⟩)) (fun b34 => ?_)
     refine JL_inlinev (args := [_, _]) (caps := [.pointer (some ⟨b9, 0, none⟩)]) wn rfl Tryz.call73 rfl rfl Tryz.func73 rfl Tryz.ntmps73 rfl rfl (fun K_ hK35 => ?_)
     refine J_region ?_
     refine JL_q wn rfl (ex_load_bx 11 ti_34 rfl rfl rfl) ?_
     refine JM rfl rfl ?_
     refine JM rfl rfl ?_
     refine JL_q wn rfl (ex_build si_88 rfl (.cons fi_88_0 rfl rfl (.cons fi_88_1 rfl rfl .nil)) (fun w hh => ⟨(hh.cv_ow 0 rfl), (hh.cv_ow 1 rfl), trivial⟩)) ?_
     refine JL_ctx (fun w hh => hh.tokf 0 rfl rfl) ?_
     refine JL_ctx (fun w hh => hh.tokf 2 rfl rfl) ?_
     refine JL_st wn rfl (st_buildSlice_od (vs := [.agg #[(.slice (some ⟨b34, 0, none⟩) 2 2), (.slice (some ⟨b33, 0, none⟩) 2 2)]]) (B := ((((.slice (some ⟨b34, 0, none⟩) 2 2) : Value).ownBlock.toList ++ []) ++ ((((.slice (some ⟨b33, 0, none⟩) 2 2) : Value).ownBlock.toList ++ []) ++ []))) ([(⟨([(w64 (r2.1.state + (w64 (Int.tdiv y16 p0.Symbols)))), r2.1.border] : List Int), ([r2.2.1, r2.1.border] : List Int)⟩ : GRewrite)] : List GRewrite) [1, 0] Tryz.underlying34 ti_88 zi_88 rfl rfl rfl rfl rfl (fun w hh => (dwv_cons (GRewrite.dw (hh.dw 1 rfl) (hh.dw 0 rfl)) dwv_nil))) (fun b36 => ?_)
     refine JL_bnd fun z37 hz38 => ?_
     refine JL_st wn rfl (st_append_od 13 0 Tryz.underlying34 ti_88 zi_88 rfl bi_88 rfl rfl rfl rfl rfl rfl hz38) (fun v39 => ?_)
     refine JL_sk wn (sk_store_bx' 14 ti_34 rfl rfl (fun w hh => (hh.cv_od 13 rfl)) rfl rfl rfl rfl) ?_
     refine JL_nil ?_
     refine N_inl0 (.inr rfl) hK35 rfl ?_
     refine JL_nil ?_
     refine N_block ?_
     refine N_then ?_
     refine J_region ?_
     refine JL_q wn rfl (ex_add rfl rfl) ?_
     refine JM rfl rfl ?_
     refine JL_nil ?_
     exact N_next' (v39, ((g14_1 ++ ((((.slice (some ⟨b26, 0, none⟩) 2 2) : Value).ownBlock.toList ++ []) ++ ((((.slice (some ⟨b25, 0, none⟩) 1 1) : Value).ownBlock.toList ++ []) ++ []))) ++ ((((.slice (some ⟨b34, 0, none⟩) 2 2) : Value).ownBlock.toList ++ []) ++ ((((.slice (some ⟨b33, 0, none⟩) 2 2) : Value).ownBlock.toList ++ []) ++ [])))) ⟨rfl, rfl, rfl, rfl, rfl, rfl, rfl, rfl, rfl, trivial⟩ [10, 11, 12, 13, 14, 15] rfl rfl
    ·refine J_skip ?_
     refine N_block ?_
     refine N_then ?_
     refine J_region ?_
     refine JL_q wn rfl (ex_add rfl rfl) ?_
     refine JM rfl rfl ?_
     refine JL_nil ?_
     exact N_next' (v31, (g14_1 ++ ((((.slice (some ⟨b26, 0, none⟩) 2 2) : Value).ownBlock.toList ++ []) ++ ((((.slice (some ⟨b25, 0, none⟩) 1 1) : Value).ownBlock.toList ++ []) ++ [])))) ⟨rfl, rfl, rfl, rfl, rfl, rfl, rfl, rfl, rfl, trivial⟩ [5, 6, 7, 8, 9, 10] rfl rfl
   ·refine J_exit ?_
    refine N_then_exit ?_
    exact N_break' (g14_0, g14_1) ⟨rfl, rfl, rfl, rfl, rfl, rfl, rfl, rfl, rfl, trivial⟩ [0, 1, 2, 3, 4, 5] rfl rfl
  ·obtain ⟨g14_0, g14_1⟩ := g14
   refine N_then ?_
   refine J_seq ?_
   refine J_sr ?_
   refine JL_q wn rfl (ex_fieldAddr fi_26_0 rfl rfl) ?_
   refine JL_q wn rfl (ex_load_bx 1 ti_2 rfl rfl rfl) ?_
   refine JM rfl rfl ?_
   refine JL_nt ?_
   refine J_loop' (S := (List GRewrite) × Int) (G := Value × List Nat) (F_impl_haltRewrites_L2 p0 r2) (fun s40 g41 => [(6, .int .i64 r2.2.1), (8, .pointer (some ⟨b9, 0, none⟩)), (9, .int .i64 (r6.length : Int)), (10, .func (.func 73) #[] #[.pointer (some ⟨b9, 0, none⟩)]), (70, .int .i64 p0.Symbols), (71, .int .i64 s40.2)]) (fun s40 g41 => [.od 88 g41.1 s40.1 g41.2, .bx b9 34 [g41.1]]) (s13.1, 0) (g14_0, g14_1) ⟨rfl, rfl, rfl, rfl, rfl, rfl, trivial⟩ [3, 4] rfl rfl (fun s40 g41 => ?_) (fun s40 g41 => ?_)
   ·obtain ⟨g41_0, g41_1⟩ := g41
    unfold F_impl_haltRewrites_L2
    refine J_sr ?_
    refine JL_q wn rfl (ex_lss rfl rfl) ?_
    refine JL_nt ?_
    refine J_seq ?_
    refine J_if rfl (fun h42 => ?_) (fun h42 => ?_)
    ·refine J_skip ?_
     refine N_then ?_
     refine J_seq ?_
     refine J_block ?_
     refine J_sr ?_
     refine JM rfl rfl ?_
     refine JA rfl rfl ?_
     refine JL_nt ?_
     refine J_sr ?_
     refine JM rfl rfl ?_
     refine JM rfl rfl ?_
     refine JL_st wn rfl (st_buildSlice (vs := [.int .i64 r2.2.1]) ([r2.2.1] : List Int) Tryz.underlying27 ti_2 zi_2 rfl rfl rfl (fun w hh => ⟨(Rd.mk_int _ _ _), trivial⟩)) (fun b43 => ?_)
     refine JM rfl rfl ?_
     refine JM rfl rfl ?_
     refine JL_st wn rfl (st_buildSlice (vs := [.int .i64 r2.2.1, .int .i64 s40.2]) ([r2.2.1, s40.2] : List Int) Tryz.underlying27 ti_2 zi_2 rfl rfl rfl (fun w hh => ⟨(Rd.mk_int _ _ _), (Rd.mk_int _ _ _), trivial⟩)) (fun b44 => ?_)
     refine JL_inlinev (args := [_, _]) (caps := [.pointer (some ⟨b9, 0, none⟩)]) wn rfl Tryz.call73 rfl rfl Tryz.func73 rfl Tryz.ntmps73 rfl rfl (fun K_ hK45 => ?_)
     refine J_region ?_
     refine JL_q wn rfl (ex_load_bx 3 ti_34 rfl rfl rfl) ?_
     refine JM rfl rfl ?_
     refine JM rfl rfl ?_
     refine JL_q wn rfl (ex_build si_88 rfl (.cons fi_88_0 rfl rfl (.cons fi_88_1 rfl rfl .nil)) (fun w hh => ⟨(hh.cv_ow 0 rfl), (hh.cv_ow 1 rfl), trivial⟩)) ?_
     refine JL_ctx (fun w hh => hh.tokf 0 rfl rfl) ?_
     refine JL_ctx (fun w hh => hh.tokf 2 rfl rfl) ?_
     refine JL_st wn rfl (st_buildSlice_od (vs := [.agg #[(.slice (some ⟨b44, 0, none⟩) 2 2), (.slice (some ⟨b43, 0, none⟩) 1 1)]]) (B := ((((.slice (some ⟨b44, 0, none⟩) 2 2) : Value).ownBlock.toList ++ []) ++ ((((.slice (some ⟨b43, 0, none⟩) 1 1) : Value).ownBlock.toList ++ []) ++ []))) ([(⟨([r2.2.1, s40.2] : List Int), ([r2.2.1] : List Int)⟩ : GRewrite)] : List GRewrite) [1, 0] Tryz.underlying34 ti_88 zi_88 rfl rfl rfl rfl rfl (fun w hh => (dwv_cons (GRewrite.dw (hh.dw 1 rfl) (hh.dw 0 rfl)) dwv_nil))) (fun b46 => ?_)
     refine JL_bnd fun z47 hz48 => ?_
     refine JL_st wn rfl (st_append_od 5 0 Tryz.underlying34 ti_88 zi_88 rfl bi_88 rfl rfl rfl rfl rfl rfl hz48) (fun v49 => ?_)
     refine JL_sk wn (sk_store_bx' 6 ti_34 rfl rfl (fun w hh => (hh.cv_od 5 rfl)) rfl rfl rfl rfl) ?_
     refine JL_nil ?_
     refine N_inl0 (.inr rfl) hK45 rfl ?_
     refine JL_nt ?_
     refine J_region ?_
     refine JM rfl rfl ?_
     refine JM rfl rfl ?_
     refine JL_st wn rfl (st_buildSlice (vs := [.int .i64 r2.2.1]) ([r2.2.1] : List Int) Tryz.underlying27 ti_2 zi_2 rfl rfl rfl (fun w hh => ⟨(Rd.mk_int _ _ _), trivial⟩)) (fun b50 => ?_)
     refine JM rfl rfl ?_
     refine JM rfl rfl ?_
     refine JL_st wn rfl (st_buildSlice (vs := [.int .i64 s40.2, .int .i64 r2.2.1]) ([s40.2, r2.2.1] : List Int) Tryz.underlying27 ti_2 zi_2 rfl rfl rfl (fun w hh => ⟨(Rd.mk_int _ _ _), (Rd.mk_int _ _ _), trivial⟩)) (fun b51 => ?_)
     refine JL_inlinev (args := [_, _]) (caps := [.pointer (some ⟨b9, 0, none⟩)]) wn rfl Tryz.call73 rfl rfl Tryz.func73 rfl Tryz.ntmps73 rfl rfl (fun K_ hK52 => ?_)
     refine J_region ?_
     refine JL_q wn rfl (ex_load_bx 8 ti_34 rfl rfl rfl) ?_
     refine JM rfl rfl ?_
     refine JM rfl rfl ?_
     refine JL_q wn rfl (ex_build si_88 rfl (.cons fi_88_0 rfl rfl (.cons fi_88_1 rfl rfl .nil)) (fun w hh => ⟨(hh.cv_ow 0 rfl), (hh.cv_ow 1 rfl), trivial⟩)) ?_
     refine JL_ctx (fun w hh => hh.tokf 0 rfl rfl) ?_
     refine JL_ctx (fun w hh => hh.tokf 2 rfl rfl) ?_
     refine JL_st wn rfl (st_buildSlice_od (vs := [.agg #[(.slice (some ⟨b51, 0, none⟩) 2 2), (.slice (some ⟨b50, 0, none⟩) 1 1)]]) (B := ((((.slice (some ⟨b51, 0, none⟩) 2 2) : Value).ownBlock.toList ++ []) ++ ((((.slice (some ⟨b50, 0, none⟩) 1 1) : Value).ownBlock.toList ++ []) ++ []))) ([(⟨([s40.2, r2.2.1] : List Int), ([r2.2.1] : List Int)⟩ : GRewrite)] : List GRewrite) [1, 0] Tryz.underlying34 ti_88 zi_88 rfl rfl rfl rfl rfl (fun w hh => (dwv_cons (GRewrite.dw (hh.dw 1 rfl) (hh.dw 0 rfl)) dwv_nil))) (fun b53 => ?_)
     refine JL_bnd fun z54 hz55 => ?_
     refine JL_st wn rfl (st_append_od 10 0 Tryz.underlying34 ti_88 zi_88 rfl bi_88 rfl rfl rfl rfl rfl rfl hz55) (fun v56 => ?_)
     refine JL_sk wn (sk_store_bx' 11 ti_34 rfl rfl (fun w hh => (hh.cv_od 10 rfl)) rfl rfl rfl rfl) ?_
     refine JL_nil ?_
     refine N_inl0 (.inr rfl) hK52 rfl ?_
     refine JL_nil ?_
     refine N_block ?_
     refine N_then ?_
     refine J_region ?_
     refine JL_q wn rfl (ex_add rfl rfl) ?_
     refine JM rfl rfl ?_
     refine JL_nil ?_
     exact N_next' (v56, ((g41_1 ++ ((((.slice (some ⟨b44, 0, none⟩) 2 2) : Value).ownBlock.toList ++ []) ++ ((((.slice (some ⟨b43, 0, none⟩) 1 1) : Value).ownBlock.toList ++ []) ++ []))) ++ ((((.slice (some ⟨b51, 0, none⟩) 2 2) : Value).ownBlock.toList ++ []) ++ ((((.slice (some ⟨b50, 0, none⟩) 1 1) : Value).ownBlock.toList ++ []) ++ [])))) ⟨rfl, rfl, rfl, rfl, rfl, rfl, trivial⟩ [10, 11] rfl rfl
    ·refine J_exit ?_
     refine N_then_exit ?_
     exact N_break' (g41_0, g41_1) ⟨rfl, rfl, rfl, rfl, rfl, rfl, trivial⟩ [0, 1] rfl rfl
   ·obtain ⟨g41_0, g41_1⟩ := g41
    refine N_then ?_
    refine J_seq ?_
    refine J_sr ?_
    refine JL_q wn rfl (ex_load_bx 1 ti_34 rfl rfl rfl) ?_
    refine JL_q wn rfl (ex_od 0 rfl (ex_len_ow 0 Tryz.underlying34 rfl rfl)) ?_
    refine JL_q wn rfl (ex_gtr rfl rfl) ?_
    refine JL_nt ?_
    refine J_if rfl (fun h57 => ?_) (fun h57 => ?_)
    ·refine J_sr ?_
     refine JA rfl rfl ?_
     refine JA rfl rfl ?_
     refine JA rfl rfl ?_
     refine JL_nt ?_
     refine J_ret ?_
     refine N_then_ret ?_
     refine N_ctx (fun w hh => SH.od_nil (α := GRewrite) 88 hh) ?_
     exact N_ret3 rfl (rv_tmp rfl) (rv_tmp rfl) (rv_tmp rfl) (fun w hh => ⟨((.slice none 0 0 : Value), ([] : List Nat)), rfl, hh.sel [0] rfl⟩)
    ·refine J_skip ?_
     refine N_then ?_
     refine J_sr ?_
     refine JL_q wn rfl (ex_load_bx 1 ti_34 rfl rfl rfl) ?_
     refine JM rfl rfl ?_
     refine JA rfl rfl ?_
     refine JA rfl rfl ?_
     refine JA rfl rfl ?_
     refine JL_nt ?_
     refine J_ret ?_
     exact N_ret3 rfl (rv_tmp rfl) (rv_tmp rfl) (rv_tmp rfl) (fun w hh => ⟨(g41_0, g41_1), rfl, hh.sel [0] rfl⟩)
set_option maxHeartbeats 40000000 in
theorem c_impl_HaltRewrites (A : Nat → Prop) (w : World) (hA : ∀ k, A k → k < w.heap.size) (v0_ : Value) (p0 : GMachine) (hp0 : Rd A w v0_ p0) (r : (List GRewrite) × Int) (hr : F_impl_HaltRewrites p0 = some r) :
  Con Tryz.prog 7 [v0_] A w (fun x_ : Value × List Nat => .tuple #[x_.1, .int .i64 r.2]) (fun x_ => [.od 88 x_.1 r.1 x_.2]) := by
 obtain ⟨v0_0, rfl, hp0_0⟩ := GMachine.open hp0
 refine Con_of (v := fun (r : (List GRewrite) × Int) (x_ : Value × List Nat) => .tuple #[x_.1, .int .i64 r.2]) (fs := fun r x_ => [.od 88 x_.1 r.1 x_.2]) Tryz.func7 rfl Tryz.ntmps7 rfl ((SH.start hA).start_rd rfl hp0_0) rfl ?_ hr
 unfold F_impl_HaltRewrites
 refine J_sr ?_
 refine JL_st wn rfl (st_box' rfl (fun w hh => (cv_aggs ⟨cv_int, cv_int, (hh.cv 0 rfl), trivial⟩))) (fun b1 => ?_)
 refine JA rfl rfl ?_
 refine JA rfl rfl ?_
 refine JL_nt ?_
 refine J_seq ?_
 refine J_sr ?_
 refine JL_q wn rfl (ex_load_bx_agg 0 ti_26 rfl rfl rfl rfl) ?_
 refine JL_bnd fun r2 hr3 => ?_
 refine JL_call wn rfl Tryz.call28 rfl (Ca_of0 fun w hh => c_impl_ValidMachine _ w (fun _ hk => hk.elim) _ _ (GMachine.rdmk (Rd.mk_int _ _ _) (Rd.mk_int _ _ _) (hh.rd0 1 rfl)) _ hr3) (fun _ => ?_)
 refine JL_q wn rfl (ex_not rfl) ?_
 refine JL_nt ?_
 refine J_if rfl (fun h4 => ?_) (fun h4 => ?_)
 ·refine J_sr ?_
  refine JA rfl rfl ?_
  refine JA rfl rfl ?_
  refine JL_nt ?_
  refine J_ret ?_
  refine N_then_ret ?_
  refine N_ctx (fun w hh => SH.od_nil (α := GRewrite) 88 hh) ?_
  exact N_ret2 rfl (rv_tmp rfl) (rv_tmp rfl) (fun w hh => ⟨((.slice none 0 0 : Value), ([] : List Nat)), rfl, hh.sel [0] rfl⟩)
 ·refine J_skip ?_
  refine N_then ?_
  refine J_sr ?_
  refine JL_q wn rfl (ex_load_bx_agg 0 ti_26 rfl rfl rfl rfl) ?_
  refine JL_bnd fun r5 hr6 => ?_
  refine JL_call wn rfl Tryz.call29 rfl (Ca_self (fun _ => rfl) fun w hh => c_impl_haltRewrites _ w (fun _ hk => hk.elim) _ _ (GMachine.rdmk (Rd.mk_int _ _ _) (Rd.mk_int _ _ _) (hh.rd0 1 rfl)) _ hr6) (fun x7 => ?_)
  obtain ⟨x7_0, x7_1⟩ := x7
  refine JM rfl rfl ?_
  refine JL_q wn rfl (ex_extract rfl rfl) ?_
  refine JL_q wn rfl (ex_extract rfl rfl) ?_
  refine JL_q wn rfl (ex_extract rfl rfl) ?_
  refine JA rfl rfl ?_
  refine JA rfl rfl ?_
  refine JA rfl rfl ?_
  refine JL_nt ?_
  refine J_sr ?_
  refine JM rfl rfl ?_
  refine JM rfl rfl ?_
  refine JA rfl rfl ?_
  refine JA rfl rfl ?_
  refine JL_nt ?_
  refine J_ret ?_
  exact N_ret2 rfl (rv_tmp rfl) (rv_tmp rfl) (fun w hh => ⟨(x7_0, x7_1), rfl, hh.sel [0] rfl⟩)
set_option maxHeartbeats 40000000 in
theorem c_slices_Concat_Sint64_int64 (A : Nat → Prop) (w : World) (hA : ∀ k, A k → k < w.heap.size) (v0_ : Value) (p0 : (List (List Int))) (hp0 : Rd A w v0_ p0) (r : (List Int)) (hr : F_slices_Concat_Sint64_int64 p0 = some r) :
  Con Tryz.prog 93 [v0_] A w (fun x_ : Value => x_) (fun x_ => [.ow 2 x_ r]) := by
 refine Con_of (v := fun (r : (List Int)) (x_ : Value) => x_) (fs := fun r x_ => [.ow 2 x_ r]) Tryz.func93 rfl Tryz.ntmps93 rfl ((SH.start hA).start_rd rfl hp0) rfl ?_ hr
 unfold F_slices_Concat_Sint64_int64
 refine J_sr ?_
 refine JA rfl rfl ?_
 refine JL_nt ?_
 refine J_sr ?_
 refine JA rfl rfl ?_
 refine JL_nt ?_
 refine J_seq ?_
 refine J_sr ?_
 refine JM rfl rfl ?_
 refine JL_q wn rfl (ex_len_rd 0 Tryz.underlying39 rfl rfl) ?_
 refine JM rfl rfl ?_
 refine JL_nt ?_
 refine J_loop' (S := Int × Int) (G := Unit) (F_slices_Concat_Sint64_int64_L1 p0) (fun s1 _ => [(0, v0_), (3, .int .i64 s1.1), (9, v0_), (10, .int .i64 (p0.length : Int)), (11, .int .i64 s1.2)]) (fun s1 _ => [.rd v0_ p0]) (0, 0) () ⟨rfl, rfl, rfl, rfl, rfl, trivial⟩ [0] rfl rfl (fun s1 g2 => ?_) (fun s1 g2 => ?_)
 ·unfold F_slices_Concat_Sint64_int64_L1
  refine J_sr ?_
  refine JL_q wn rfl (ex_lss rfl rfl) ?_
  refine JL_nt ?_
  refine J_seq ?_
  refine J_if rfl (fun h3 => ?_) (fun h3 => ?_)
  ·refine J_skip ?_
   refine N_then ?_
   refine J_seq ?_
   refine J_block ?_
   refine J_sr ?_
   refine JL_bnd fun y4 hy5 => ?_
   refine JL_st wn rfl (st_index 0 Tryz.underlying39 ti_27 rfl rfl rfl hy5) (fun q6 => ?_)
   refine JL_st wn rfl (st_load_pt_o 0 (opens_sl _) ti_27 rfl rfl) (fun v7 => ?_)
   refine JA rfl rfl ?_
   refine JL_nt ?_
   refine J_sr ?_
   refine JM rfl rfl ?_
   refine JM rfl rfl ?_
   refine JL_q wn rfl (ex_len_rd 0 Tryz.underlying27 rfl rfl) ?_
   refine JL_q wn rfl (ex_add rfl rfl) ?_
   refine JA rfl rfl ?_
   refine JL_nt ?_
   refine J_sr ?_
   refine JM rfl rfl ?_
   refine JL_q wn rfl (ex_lss rfl rfl) ?_
   refine JL_nt ?_
   refine J_if rfl (fun h8 => ?_) (fun h8 => ?_)
   ·refine J_region ?_
    exact JL_none
   ·refine J_skip ?_
    refine N_block ?_
    refine N_then ?_
    refine J_region ?_
    refine JL_q wn rfl (ex_add rfl rfl) ?_
    refine JM rfl rfl ?_
    refine JL_nil ?_
    exact N_next' () ⟨rfl, rfl, rfl, rfl, rfl, trivial⟩ [2] rfl rfl
  ·refine J_exit ?_
   refine N_then_exit ?_
   exact N_break' () ⟨rfl, rfl, rfl, rfl, rfl, trivial⟩ [0] rfl rfl
 ·refine N_then ?_
  refine J_sr ?_
  refine JM rfl rfl ?_
  refine JL_inline wn rfl Tryz.call117 rfl Tryz.func117 rfl Tryz.ntmps117 rfl rfl (fun K_ hK9 => ?_)
  refine J_sr ?_
  refine JA rfl rfl ?_
  refine JL_nt ?_
  refine J_seq ?_
  refine J_cut' (S' := Unit) (G' := Unit) (fun _ _ => [(0, .slice none 0 0), (1, .int .i64 s1.1)]) (fun _ _ => [.rd v0_ p0]) ?_ (fun s10 g11 => ?_)
  ·refine J_sr ?_
   refine JM rfl rfl ?_
   refine JL_q wn rfl (ex_lss rfl rfl) ?_
   refine JL_nt ?_
   refine J_if rfl (fun h12 => ?_) (fun h12 => ?_)
   ·refine J_region ?_
    exact JL_none
   ·refine J_skip ?_
    exact N_meet' () ⟨rfl, rfl, trivial⟩ [0] rfl rfl
  ·refine N_then ?_
   refine J_seq ?_
   refine J_sr ?_
   refine JM rfl rfl ?_
   refine JM rfl rfl ?_
   refine JL_q wn rfl (ex_cap_lit Tryz.underlying27 rfl) ?_
   refine JM rfl rfl ?_
   refine JL_q wn rfl (ex_len_nil Tryz.underlying27 rfl) ?_
   refine JL_q wn rfl (ex_sub rfl rfl) ?_
   refine JL_q wn rfl (ex_sub rfl rfl) ?_
   refine JA rfl rfl ?_
   refine JL_nt ?_
   refine J_sr ?_
   refine JM rfl rfl ?_
   refine JL_q wn rfl (ex_gtr rfl rfl) ?_
   refine JL_nt ?_
   refine J_if rfl (fun h13 => ?_) (fun h13 => ?_)
   ·refine J_region ?_
    refine JM rfl rfl ?_
    refine JM rfl rfl ?_
    refine JL_q wn rfl (ex_cap_lit Tryz.underlying27 rfl) ?_
    refine JL_q wn rfl (ex_slice_nil Tryz.underlying27 ti_2 rfl rfl) ?_
    refine JM rfl rfl ?_
    refine JL_bnd fun z14 hz15 => ?_
    refine JL_st wn rfl (st_zeros (α := Int) Tryz.underlying27 Tryz.underlying3 ti_2 zi_2 bi_2 rfl (fun _ _ => zero_int) rfl rfl (of_decide_eq_true h13) hz15) (fun v16 => ?_)
    refine JM rfl rfl ?_
    refine JL_q wn rfl (ex_len_nil Tryz.underlying27 rfl) ?_
    refine JL_bnd fun z17 hz18 => ?_
    refine JL_st wn rfl (st_slice_own 0 Tryz.underlying27 ti_2 rfl rfl rfl hz18) (fun v19 => ?_)
    refine JA rfl rfl ?_
    refine JL_nt ?_
    refine J_sr ?_
    refine JM rfl rfl ?_
    refine JA rfl rfl ?_
    refine JL_nt ?_
    refine J_ret ?_
    refine N_inl1 hK9 rfl (rv_tmp rfl) ?_
    refine JA rfl rfl ?_
    refine JL_nt ?_
    refine J_seq ?_
    refine J_sr ?_
    refine JM rfl rfl ?_
    refine JL_q wn rfl (ex_len_rd 1 Tryz.underlying39 rfl rfl) ?_
    refine JM rfl rfl ?_
    refine JL_nt ?_
    refine J_loop' (S := (List Int) × Int) (G := Value) (F_slices_Concat_Sint64_int64_L2 p0) (fun s20 g21 => [(6, g21), (25, v0_), (26, .int .i64 (p0.length : Int)), (27, .int .i64 s20.2)]) (fun s20 g21 => [.ow 2 g21 s20.1, .rd v0_ p0]) (z17, 0) v19 ⟨rfl, rfl, rfl, rfl, trivial⟩ [0, 1] rfl rfl (fun s20 g21 => ?_) (fun s20 g21 => ?_)
    ·unfold F_slices_Concat_Sint64_int64_L2
     refine J_sr ?_
     refine JL_q wn rfl (ex_lss rfl rfl) ?_
     refine JL_nt ?_
     refine J_seq ?_
     refine J_if rfl (fun h22 => ?_) (fun h22 => ?_)
     ·refine J_skip ?_
      refine N_then ?_
      refine J_seq ?_
      refine J_block ?_
      refine J_sr ?_
      refine JL_bnd fun y23 hy24 => ?_
      refine JL_st wn rfl (st_index 1 Tryz.underlying39 ti_27 rfl rfl rfl hy24) (fun q25 => ?_)
      refine JL_st wn rfl (st_load_pt_o 0 (opens_sl _) ti_27 rfl rfl) (fun v26 => ?_)
      refine JA rfl rfl ?_
      refine JL_nt ?_
      refine J_region ?_
      refine JM rfl rfl ?_
      refine JM rfl rfl ?_
      refine JL_bnd fun z27 hz28 => ?_
      refine JL_st wn rfl (st_append 2 Tryz.underlying27 ti_2 zi_2 rfl bi_2 rfl rfl rfl rfl (fun w hh => hh.src_rd 0 rfl) hz28) (fun v29 => ?_)
      refine JA rfl rfl ?_
      refine JL_nil ?_
      refine N_block ?_
      refine N_then ?_
      refine J_region ?_
      refine JL_q wn rfl (ex_add rfl rfl) ?_
      refine JM rfl rfl ?_
      refine JL_nil ?_
      exact N_next' v29 ⟨rfl, rfl, rfl, rfl, trivial⟩ [2, 3] rfl rfl
     ·refine J_exit ?_
      refine N_then_exit ?_
      exact N_break' g21 ⟨rfl, rfl, rfl, rfl, trivial⟩ [0, 1] rfl rfl
    ·refine N_then ?_
     refine J_sr ?_
     refine JM rfl rfl ?_
     refine JA rfl rfl ?_
     refine JL_nt ?_
     refine J_ret ?_
     exact N_ret1 rfl (rv_tmp rfl) (fun w hh => ⟨g21, rfl, hh.sel [0] rfl⟩)
   ·refine J_skip ?_
    refine N_then ?_
    refine J_sr ?_
    refine JM rfl rfl ?_
    refine JA rfl rfl ?_
    refine JL_nt ?_
    refine J_ret ?_
    refine N_inl1 hK9 rfl (rv_tmp rfl) ?_
    refine JA rfl rfl ?_
    refine JL_nt ?_
    refine J_seq ?_
    refine J_sr ?_
    refine JM rfl rfl ?_
    refine JL_q wn rfl (ex_len_rd 0 Tryz.underlying39 rfl rfl) ?_
    refine JM rfl rfl ?_
    refine JL_nt ?_
    refine J_ctx (fun w hh => SH.ow_nil (α := Int) 2 hh) ?_
    refine J_loop' (S := (List Int) × Int) (G := Value) (F_slices_Concat_Sint64_int64_L3 p0) (fun s30 g31 => [(6, g31), (25, v0_), (26, .int .i64 (p0.length : Int)), (27, .int .i64 s30.2)]) (fun s30 g31 => [.ow 2 g31 s30.1, .rd v0_ p0]) (([] : (List Int)), 0) (.slice none 0 0 : Value) ⟨rfl, rfl, rfl, rfl, trivial⟩ [0, 1] rfl rfl (fun s30 g31 => ?_) (fun s30 g31 => ?_)
    ·unfold F_slices_Concat_Sint64_int64_L3
     refine J_sr ?_
     refine JL_q wn rfl (ex_lss rfl rfl) ?_
     refine JL_nt ?_
     refine J_seq ?_
     refine J_if rfl (fun h32 => ?_) (fun h32 => ?_)
     ·refine J_skip ?_
      refine N_then ?_
      refine J_seq ?_
      refine J_block ?_
      refine J_sr ?_
      refine JL_bnd fun y33 hy34 => ?_
      refine JL_st wn rfl (st_index 1 Tryz.underlying39 ti_27 rfl rfl rfl hy34) (fun q35 => ?_)
      refine JL_st wn rfl (st_load_pt_o 0 (opens_sl _) ti_27 rfl rfl) (fun v36 => ?_)
      refine JA rfl rfl ?_
      refine JL_nt ?_
      refine J_region ?_
      refine JM rfl rfl ?_
      refine JM rfl rfl ?_
      refine JL_bnd fun z37 hz38 => ?_
      refine JL_st wn rfl (st_append 2 Tryz.underlying27 ti_2 zi_2 rfl bi_2 rfl rfl rfl rfl (fun w hh => hh.src_rd 0 rfl) hz38) (fun v39 => ?_)
      refine JA rfl rfl ?_
      refine JL_nil ?_
      refine N_block ?_
      refine N_then ?_
      refine J_region ?_
      refine JL_q wn rfl (ex_add rfl rfl) ?_
      refine JM rfl rfl ?_
      refine JL_nil ?_
      exact N_next' v39 ⟨rfl, rfl, rfl, rfl, trivial⟩ [2, 3] rfl rfl
     ·refine J_exit ?_
      refine N_then_exit ?_
      exact N_break' g31 ⟨rfl, rfl, rfl, rfl, trivial⟩ [0, 1] rfl rfl
    ·refine N_then ?_
     refine J_sr ?_
     refine JM rfl rfl ?_
     refine JA rfl rfl ?_
     refine JL_nt ?_
     refine J_ret ?_
     exact N_ret1 rfl (rv_tmp rfl) (fun w hh => ⟨g31, rfl, hh.sel [0] rfl⟩)
set_option maxHeartbeats 40000000 in
theorem c_impl_joined (A : Nat → Prop) (w : World) (hA : ∀ k, A k → k < w.heap.size) (v0_ : Value) (p0 : (List (List Int))) (hp0 : Rd A w v0_ p0) (r : (List Int)) (hr : F_impl_joined p0 = some r) :
  Con Tryz.prog 45 [v0_] A w (fun x_ : Value => x_) (fun x_ => [.ow 2 x_ r]) := by
 refine Con_of (v := fun (r : (List Int)) (x_ : Value) => x_) (fs := fun r x_ => [.ow 2 x_ r]) Tryz.func45 rfl Tryz.ntmps45 rfl ((SH.start hA).start_rd rfl hp0) rfl ?_ hr
 unfold F_impl_joined
 refine J_sr ?_
 refine JA rfl rfl ?_
 refine JL_nt ?_
 refine J_sr ?_
 refine JM rfl rfl ?_
 refine JL_bnd fun r1 hr2 => ?_
 refine JL_call wn rfl Tryz.call93 rfl (Ca_self (fun _ => rfl) fun w hh => c_slices_Concat_Sint64_int64 _ w (fun _ hk => hk.elim) _ _ (hh.rd0 0 rfl) _ hr2) (fun x3 => ?_)
 refine JA rfl rfl ?_
 refine JL_nt ?_
 refine J_ret ?_
 exact N_ret1 rfl (rv_tmp rfl) (fun w hh => ⟨x3, rfl, hh.sel [0] rfl⟩)
set_option maxHeartbeats 40000000 in
theorem c_impl_alphabet_wordOfConfig (A : Nat → Prop) (w : World) (hA : ∀ k, A k → k < w.heap.size) (v0_ : Value) (p0 : Galphabet) (hp0 : Rd A w v0_ p0) (v1_ : Value) (p1 : GConfig) (hp1 : Rd A w v1_ p1) (r : (List Int)) (hr : F_impl_alphabet_wordOfConfig p0 p1 = some r) :
  Con Tryz.prog 76 [v0_, v1_] A w (fun x_ : Value => x_) (fun x_ => [.ow 2 x_ r]) := by
 obtain rfl := Galphabet.open hp0
 obtain ⟨v1_0, v1_1, rfl, hp1_0, hp1_1⟩ := GConfig.open hp1
 refine Con_of (v := fun (r : (List Int)) (x_ : Value) => x_) (fs := fun r x_ => [.ow 2 x_ r]) Tryz.func76 rfl Tryz.ntmps76 rfl (((SH.start hA).start_rd rfl hp1_0).start_rd rfl hp1_1) rfl ?_ hr
 unfold F_impl_alphabet_wordOfConfig
 refine J_sr ?_
 refine JL_st wn rfl (st_box' rfl (fun w hh => (cv_aggs ⟨cv_int, cv_int, trivial⟩))) (fun b1 => ?_)
 refine JL_st wn rfl (st_box' rfl (fun w hh => (cv_aggs ⟨cv_int, (hh.cv 2 rfl), (hh.cv 1 rfl), trivial⟩))) (fun b2 => ?_)
 refine JA rfl rfl ?_
 refine JL_nt ?_
 refine J_seq ?_
 refine J_draw [] (by kernel_rfl) ?_
 refine JP_take (i := 0) [0, 1, 2, 3] [] rfl (by kernel_rfl) (by kernel_rfl) (by kernel_rfl) rfl rfl wn rfl (ex_fieldAddr fi_70_1 rfl rfl) ?_
 refine JP_take (i := 1) [0, 1, 2, 3] [] rfl (by kernel_rfl) (by kernel_rfl) (by kernel_rfl) rfl rfl wn rfl (ex_load_bx 1 ti_2 rfl rfl rfl) ?_
 refine JP_take (i := 3) [0, 1, 2, 3] [] rfl (by kernel_rfl) (by kernel_rfl) (by kernel_rfl) rfl rfl wn rfl (ex_fieldAddr fi_29_1 rfl rfl) ?_
 refine JP_take (i := 4) [0, 1, 2, 3] [] rfl (by kernel_rfl) (by kernel_rfl) (by kernel_rfl) rfl rfl wn rfl (ex_load_bx 0 ti_27 rfl rfl rfl) ?_
 refine JP_take (i := 6) [0, 1, 2, 3] [] rfl (by kernel_rfl) (by kernel_rfl) (by kernel_rfl) rfl rfl wn rfl (ex_fieldAddr fi_70_0 rfl rfl) ?_
 refine JP_take (i := 7) [0, 1, 2, 3] [] rfl (by kernel_rfl) (by kernel_rfl) (by kernel_rfl) rfl rfl wn rfl (ex_load_bx 1 ti_2 rfl rfl rfl) ?_
 refine JP_take (i := 8) [0, 1, 2, 3] [] rfl (by kernel_rfl) (by kernel_rfl) (by kernel_rfl) rfl rfl wn rfl (ex_fieldAddr fi_29_0 rfl rfl) ?_
 refine JP_take (i := 9) [0, 1, 2, 3] [] rfl (by kernel_rfl) (by kernel_rfl) (by kernel_rfl) rfl rfl wn rfl (ex_load_bx 0 ti_2 rfl rfl rfl) ?_
 refine JP_take (i := 10) [0, 1, 2, 3] [] rfl (by kernel_rfl) (by kernel_rfl) (by kernel_rfl) rfl rfl wn rfl (ex_add rfl rfl) ?_
 refine JP_take (i := 12) [0, 1, 2, 3] [] rfl (by kernel_rfl) (by kernel_rfl) (by kernel_rfl) rfl rfl wn rfl (ex_fieldAddr fi_29_2 rfl rfl) ?_
 refine JP_take (i := 13) [0, 1, 2, 3] [] rfl (by kernel_rfl) (by kernel_rfl) (by kernel_rfl) rfl rfl wn rfl (ex_load_bx 0 ti_27 rfl rfl rfl) ?_
 refine JP_take (i := 14) [0, 1, 2, 3] [] rfl (by kernel_rfl) (by kernel_rfl) (by kernel_rfl) rfl rfl wn rfl (ex_fieldAddr fi_70_1 rfl rfl) ?_
 refine JP_take (i := 15) [0, 1, 2, 3] [] rfl (by kernel_rfl) (by kernel_rfl) (by kernel_rfl) rfl rfl wn rfl (ex_load_bx 1 ti_2 rfl rfl rfl) ?_
 refine JP_go [0, 1, 2, 3] [] rfl rfl rfl (fun w4 h1_5 hp3 => ?_)
 refine JD_bnd fun r6 hr7 => ?_
 refine JD_par (fuel := 3) [⟨2, 7, Nat, fun b8 => (.slice (some ⟨b8, 0, none⟩) 1 1), fun b8 => [.ow 2 (.slice (some ⟨b8, 0, none⟩) 1 1) ([p0.border] : List Int)]⟩, ⟨5, 10, Value, fun x_ => x_, fun x_ => [.ow 2 x_ r6]⟩, ⟨11, 16, Nat, fun b10 => (.slice (some ⟨b10, 0, none⟩) 1 1), fun b10 => [.ow 2 (.slice (some ⟨b10, 0, none⟩) 1 1) ([(w64 (p0.state + p1.State))] : List Int)]⟩, ⟨16, 21, Nat, fun b11 => (.slice (some ⟨b11, 0, none⟩) 1 1), fun b11 => [.ow 2 (.slice (some ⟨b11, 0, none⟩) 1 1) ([p0.border] : List Int)]⟩] [2, 5, 11, 16] 4 rfl rfl (by kernel_rfl) rfl rfl rfl ⟨(PStep.st rfl wn (fun _ => (st_buildSlice (vs := [.int .i64 p0.border]) ([p0.border] : List Int) Tryz.underlying27 ti_2 zi_2 rfl rfl rfl (fun w hh => ⟨(Rd.mk_int _ _ _), trivial⟩)))), (PStep.call rfl wn Tryz.call65 rfl (fun _ => (Ca_self (fun _ => rfl) fun w hh => c_impl_reversed _ w (fun _ hk => hk.elim) _ _ (hh.rd0 3 rfl) _ hr7))), (PStep.st rfl wn (fun _ => (st_buildSlice (vs := [.int .i64 (w64 (p0.state + p1.State))]) ([(w64 (p0.state + p1.State))] : List Int) Tryz.underlying27 ti_2 zi_2 rfl rfl rfl (fun w hh => ⟨(Rd.mk_int _ _ _), trivial⟩)))), (PStep.st rfl wn (fun _ => (st_buildSlice (vs := [.int .i64 p0.border]) ([p0.border] : List Int) Tryz.underlying27 ti_2 zi_2 rfl rfl rfl (fun w hh => ⟨(Rd.mk_int _ _ _), trivial⟩)))), trivial⟩ (fun b8 x9 b10 b11 => ?_)
 show JD _ _ _ _ _ _ _ _ _ _ _ _ _ _
 refine JD_one (i := 17) (by kernel_rfl) ?_
 refine JO_ctx (fun w hh => hh.tokf 3 rfl rfl) (tokf_owns (i := 3) rfl) ?_
 refine JO_ctx (fun w hh => hh.tokf 3 rfl rfl) (tokf_owns (i := 3) rfl) ?_
 refine JO_ctx (fun w hh => hh.tokf 3 rfl rfl) (tokf_owns (i := 3) rfl) ?_
 refine JO_ctx (fun w hh => hh.tokf 3 rfl rfl) (tokf_owns (i := 3) rfl) ?_
 refine JO_st rfl wn rfl (st_buildSlice (vs := [(.slice (some ⟨b8, 0, none⟩) 1 1), x9, (.slice (some ⟨b10, 0, none⟩) 1 1), v1_1, (.slice (some ⟨b11, 0, none⟩) 1 1)]) ([([p0.border] : List Int), r6, ([(w64 (p0.state + p1.State))] : List Int), p1.Right, ([p0.border] : List Int)] : List (List Int)) Tryz.underlying39 ti_27 zi_27 rfl rfl rfl (fun w hh => ⟨(hh.rd 7 rfl), (hh.rd 6 rfl), (hh.rd 5 rfl), (hh.rd 10 rfl), (hh.rd 4 rfl), trivial⟩)) (fun _ hk => nomatch hk) (fun b12 => ?_)
 refine JD_bnd fun r13 hr14 => ?_
 refine JD_one (i := 18) (by kernel_rfl) ?_
 refine JO_call rfl wn rfl Tryz.call45 rfl (Ca_self (fun _ => rfl) fun w hh => c_impl_joined _ w (fun _ hk => hk.elim) _ _ (hh.ow0 0 rfl) _ hr14) (fun x15 => ?_)
 refine JD_take (i := 19) hp3 rfl (by kernel_rfl) (by kernel_rfl) (by kernel_rfl) wn rfl (ex_assign rfl) ?_
 refine JD_done (by kernel_rfl) ?_
 refine N_then ?_
 refine J_ret ?_
 exact N_ret1 rfl (rv_tmp rfl) (fun w hh => ⟨x15, rfl, hh.sel [0] rfl⟩)
set_option maxHeartbeats 40000000 in
theorem c_impl_fitting (A : Nat → Prop) (w : World) (hA : ∀ k, A k → k < w.heap.size) (v0_ : Value) (p0 : (List Int)) (hp0 : Rd A w v0_ p0) (r : (List Int) × Int) (hr : F_impl_fitting p0 = some r) :
  Con Tryz.prog 75 [v0_] A w (fun x_ : Value => .tuple #[x_, .int .i64 r.2]) (fun x_ => [.pr (Sub v0_ p0 x_ r.1)]) := by
 refine Con_of (v := fun (r : (List Int) × Int) (x_ : Value) => .tuple #[x_, .int .i64 r.2]) (fs := fun r x_ => [.pr (Sub v0_ p0 x_ r.1)]) Tryz.func75 rfl Tryz.ntmps75 rfl ((SH.start hA).start_rd rfl hp0) rfl ?_ hr
 unfold F_impl_fitting
 refine J_sr ?_
 refine JA rfl rfl ?_
 refine JA rfl rfl ?_
 refine JL_nt ?_
 refine J_seq ?_
 refine J_sr ?_
 refine JM rfl rfl ?_
 refine JL_q wn rfl (ex_len_rd 0 Tryz.underlying27 rfl rfl) ?_
 refine JL_q wn rfl (ex_gtr rfl rfl) ?_
 refine JL_nt ?_
 refine J_if rfl (fun h1 => ?_) (fun h1 => ?_)
 ·refine J_sr ?_
  refine JA rfl rfl ?_
  refine JA rfl rfl ?_
  refine JL_nt ?_
  refine J_ret ?_
  refine N_then_ret ?_
  refine N_ctx (fun w hh => hh.cons_pr (p := Sub v0_ p0 (.slice none 0 0) ([] : (List Int))) Sub.nil) ?_
  exact N_ret2 rfl (rv_tmp rfl) (rv_tmp rfl) (fun w hh => ⟨(.slice none 0 0 : Value), rfl, hh.sel [0] rfl⟩)
 ·refine J_skip ?_
  refine N_then ?_
  refine J_sr ?_
  refine JM rfl rfl ?_
  refine JA rfl rfl ?_
  refine JA rfl rfl ?_
  refine JL_nt ?_
  refine J_ret ?_
  refine N_ctx (fun w hh => hh.cons_pr (p := Sub v0_ p0 v0_ p0) Sub.refl) ?_
  exact N_ret2 rfl (rv_tmp rfl) (rv_tmp rfl) (fun w hh => ⟨v0_, rfl, hh.sel [0] rfl⟩)
set_option maxHeartbeats 40000000 in
theorem c_impl_haltWords (A : Nat → Prop) (w : World) (hA : ∀ k, A k → k < w.heap.size) (v0_ : Value) (p0 : GMachine) (hp0 : Rd A w v0_ p0) (v1_ : Value) (p1 : GConfig) (hp1 : Rd A w v1_ p1) (r : (List Int) × (List Int) × Int) (hr : F_impl_haltWords p0 p1 = some r) :
  Con Tryz.prog 30 [v0_, v1_] A w (fun x_ : Value × List Nat × Value => .tuple #[x_.1, x_.2.2, .int .i64 r.2.2]) (fun x_ => [.tkn x_.1 r.1 x_.2.1, .ow 2 x_.2.2 r.2.1]) := by
 obtain ⟨v0_0, rfl, hp0_0⟩ := GMachine.open hp0
 obtain ⟨v1_0, v1_1, rfl, hp1_0, hp1_1⟩ := GConfig.open hp1
 refine Con_of (v := fun (r : (List Int) × (List Int) × Int) (x_ : Value × List Nat × Value) => .tuple #[x_.1, x_.2.2, .int .i64 r.2.2]) (fs := fun r x_ => [.tkn x_.1 r.1 x_.2.1, .ow 2 x_.2.2 r.2.1]) Tryz.func30 rfl Tryz.ntmps30 rfl ((((SH.start hA).start_rd rfl hp0_0).start_rd rfl hp1_0).start_rd rfl hp1_1) rfl ?_ hr
 unfold F_impl_haltWords
 refine J_sr ?_
 refine JL_st wn rfl (st_box' rfl (fun w hh => (cv_aggs ⟨cv_int, cv_int, (hh.cv 2 rfl), trivial⟩))) (fun b1 => ?_)
 refine JL_st wn rfl (st_box' rfl (fun w hh => (cv_aggs ⟨cv_int, (hh.cv 2 rfl), (hh.cv 1 rfl), trivial⟩))) (fun b2 => ?_)
 refine JA rfl rfl ?_
 refine JA rfl rfl ?_
 refine JA rfl rfl ?_
 refine JL_nt ?_
 refine J_sr ?_
 refine JL_q wn rfl (ex_load_bx_agg 1 ti_26 rfl rfl rfl rfl) ?_
 refine JL_bnd fun r3 hr4 => ?_
 refine JL_call wn rfl Tryz.call32 rfl (Ca_of0 fun w hh => c_impl_eraserOf _ w (fun _ hk => hk.elim) _ _ (GMachine.rdmk (Rd.mk_int _ _ _) (Rd.mk_int _ _ _) (hh.rd0 4 rfl)) _ hr4) (fun _ => ?_)
 refine JM rfl rfl ?_
 refine JL_q wn rfl (ex_extract rfl rfl) ?_
 refine JL_q wn rfl (ex_extract rfl rfl) ?_
 refine JL_q wn rfl (ex_extract rfl rfl) ?_
 refine JL_st wn rfl (st_alloc zi_70 rfl) (fun b5 => ?_)
 refine JL_sk wn (sk_store_bx' 0 ti_70 rfl rfl (fun w hh => (cv_aggs ⟨cv_int, cv_int, trivial⟩)) rfl rfl rfl rfl) ?_
 refine JA rfl rfl ?_
 refine JA rfl rfl ?_
 refine JL_nt ?_
 refine J_seq ?_
 refine J_sr ?_
 refine JM rfl rfl ?_
 refine JL_q wn rfl (ex_neq rfl rfl) ?_
 refine JL_nt ?_
 refine J_if rfl (fun h6 => ?_) (fun h6 => ?_)
 ·refine J_sr ?_
  refine JM rfl rfl ?_
  refine JA rfl rfl ?_
  refine JA rfl rfl ?_
  refine JA rfl rfl ?_
  refine JL_nt ?_
  refine J_ret ?_
  refine N_then_ret ?_
  refine N_ctx (fun w hh => SH.ow_nil (α := Int) 2 hh) ?_
  refine N_ctx (fun w hh => hh.tokf 0 rfl rfl) ?_
  refine N_ctx (fun w hh => SH.ow_nil (α := Int) 2 hh) ?_
  exact N_ret3 rfl (rv_tmp rfl) (rv_tmp rfl) (rv_tmp rfl) (fun w hh => ⟨((.slice none 0 0 : Value), ((.slice none 0 0 : Value).ownBlock.toList ++ []), (.slice none 0 0 : Value)), rfl, hh.sel [1, 0] rfl⟩)
 ·refine J_skip ?_
  refine N_then ?_
  refine J_sr ?_
  refine JL_q wn rfl (ex_load_bx_agg 0 ti_70 rfl rfl rfl rfl) ?_
  refine JL_q wn rfl (ex_load_bx_agg 1 ti_29 rfl rfl rfl rfl) ?_
  refine JL_bnd fun r7 hr8 => ?_
  refine JL_call wn rfl Tryz.call76 rfl (Ca_self (fun _ => rfl) fun w hh => c_impl_alphabet_wordOfConfig _ w (fun _ hk => hk.elim) _ _ (Galphabet.rdmk (Rd.mk_int _ _ _) (Rd.mk_int _ _ _)) _ _ (GConfig.rdmk (Rd.mk_int _ _ _) (hh.rd0 4 rfl) (hh.rd0 3 rfl)) _ hr8) (fun x9 => ?_)
  refine JL_bnd fun r10 hr11 => ?_
  refine JL_call wn rfl Tryz.call75 rfl (Ca_self (fun _ => rfl) fun w hh => c_impl_fitting _ w (fun _ hk => hk.elim) _ _ (hh.ow0 0 rfl) _ hr11) (fun x12 => ?_)
  refine JL_ctx (fun w hh => hh.tokf 1 rfl rfl) ?_
  refine JL_ctx (fun w hh => hh.sub_rd 2 rfl (hh.pr 1 rfl)) ?_
  refine JL_ctx (fun w hh => hh.sub_tkn 1 rfl (hh.pr 2 rfl)) ?_
  refine JM rfl rfl ?_
  refine JL_q wn rfl (ex_extract rfl rfl) ?_
  refine JL_q wn rfl (ex_extract rfl rfl) ?_
  refine JA rfl rfl ?_
  refine JA rfl rfl ?_
  refine JL_nt ?_
  refine J_seq ?_
  refine J_sr ?_
  refine JM rfl rfl ?_
  refine JL_q wn rfl (ex_neq rfl rfl) ?_
  refine JL_nt ?_
  refine J_if rfl (fun h13 => ?_) (fun h13 => ?_)
  ·refine J_sr ?_
   refine JM rfl rfl ?_
   refine JA rfl rfl ?_
   refine JA rfl rfl ?_
   refine JA rfl rfl ?_
   refine JL_nt ?_
   refine J_ret ?_
   refine N_then_ret ?_
   refine N_ctx (fun w hh => SH.ow_nil (α := Int) 2 hh) ?_
   refine N_ctx (fun w hh => hh.tokf 0 rfl rfl) ?_
   refine N_ctx (fun w hh => SH.ow_nil (α := Int) 2 hh) ?_
   exact N_ret3 rfl (rv_tmp rfl) (rv_tmp rfl) (rv_tmp rfl) (fun w hh => ⟨((.slice none 0 0 : Value), ((.slice none 0 0 : Value).ownBlock.toList ++ []), (.slice none 0 0 : Value)), rfl, hh.sel [1, 0] rfl⟩)
  ·refine J_skip ?_
   refine N_then ?_
   refine J_seq ?_
   refine J_draw [] (by kernel_rfl) ?_
   refine JP_take (i := 0) [0, 1, 2, 3, 4, 5, 6, 7, 8, 9] [] rfl (by kernel_rfl) (by kernel_rfl) (by kernel_rfl) rfl rfl wn rfl (ex_move rfl) ?_
   refine JP_take (i := 1) [0, 1, 2, 3, 4, 5, 6, 7, 8, 9] [] rfl (by kernel_rfl) (by kernel_rfl) (by kernel_rfl) rfl rfl wn rfl (ex_fieldAddr fi_70_1 rfl rfl) ?_
   refine JP_take (i := 2) [0, 1, 2, 3, 4, 5, 6, 7, 8, 9] [] rfl (by kernel_rfl) (by kernel_rfl) (by kernel_rfl) rfl rfl wn rfl (ex_load_bx 4 ti_2 rfl rfl rfl) ?_
   refine JP_take (i := 3) [0, 1, 2, 3, 4, 5, 6, 7, 8, 9] [] rfl (by kernel_rfl) (by kernel_rfl) (by kernel_rfl) rfl rfl wn rfl (ex_move rfl) ?_
   refine JP_take (i := 4) [0, 1, 2, 3, 4, 5, 6, 7, 8, 9] [] rfl (by kernel_rfl) (by kernel_rfl) (by kernel_rfl) rfl rfl wn rfl (ex_fieldAddr fi_70_1 rfl rfl) ?_
   refine JP_take (i := 5) [0, 1, 2, 3, 4, 5, 6, 7, 8, 9] [] rfl (by kernel_rfl) (by kernel_rfl) (by kernel_rfl) rfl rfl wn rfl (ex_load_bx 4 ti_2 rfl rfl rfl) ?_
   refine JP_take (i := 7) [0, 1, 2, 3, 4, 5, 6, 7, 8, 9] [] rfl (by kernel_rfl) (by kernel_rfl) (by kernel_rfl) rfl rfl wn rfl (ex_assign rfl) ?_
   refine JP_go [0, 1, 2, 3, 4, 5, 6, 7, 8, 9] [] rfl rfl rfl (fun w15 h1_16 hp14 => ?_)
   refine JD_one (i := 6) (by kernel_rfl) ?_
   refine JO_st rfl wn rfl (st_buildSlice (vs := [.int .i64 r3.1.border, .int .i64 r3.2.1, .int .i64 r3.1.border]) ([r3.1.border, r3.2.1, r3.1.border] : List Int) Tryz.underlying27 ti_2 zi_2 rfl rfl rfl (fun w hh => ⟨(Rd.mk_int _ _ _), (Rd.mk_int _ _ _), (Rd.mk_int _ _ _), trivial⟩)) (fun _ hk => nomatch hk) (fun b17 => ?_)
   refine JD_take (i := 8) hp14 rfl (by kernel_rfl) (by kernel_rfl) (by kernel_rfl) wn rfl (ex_assign rfl) ?_
   refine JD_take (i := 9) hp14 rfl (by kernel_rfl) (by kernel_rfl) (by kernel_rfl) wn rfl (ex_assign rfl) ?_
   refine JD_done (by kernel_rfl) ?_
   refine N_then ?_
   refine J_ret ?_
   exact N_ret3 rfl (rv_tmp rfl) (rv_tmp rfl) (rv_tmp rfl) (fun w hh => ⟨(x12, ((x9 : Value).ownBlock.toList ++ []), (.slice (some ⟨b17, 0, none⟩) 3 3)), rfl, hh.sel [2, 0] rfl⟩)
set_option maxHeartbeats 40000000 in
theorem c_impl_HaltWords (A : Nat → Prop) (w : World) (hA : ∀ k, A k → k < w.heap.size) (v0_ : Value) (p0 : GMachine) (hp0 : Rd A w v0_ p0) (v1_ : Value) (p1 : GConfig) (hp1 : Rd A w v1_ p1) (r : (List Int) × (List Int) × Int) (hr : F_impl_HaltWords p0 p1 = some r) :
  Con Tryz.prog 8 [v0_, v1_] A w (fun x_ : Value × List Nat × Value => .tuple #[x_.1, x_.2.2, .int .i64 r.2.2]) (fun x_ => [.tkn x_.1 r.1 x_.2.1, .ow 2 x_.2.2 r.2.1]) := by
 obtain ⟨v0_0, rfl, hp0_0⟩ := GMachine.open hp0
 obtain ⟨v1_0, v1_1, rfl, hp1_0, hp1_1⟩ := GConfig.open hp1
 refine Con_of (v := fun (r : (List Int) × (List Int) × Int) (x_ : Value × List Nat × Value) => .tuple #[x_.1, x_.2.2, .int .i64 r.2.2]) (fs := fun r x_ => [.tkn x_.1 r.1 x_.2.1, .ow 2 x_.2.2 r.2.1]) Tryz.func8 rfl Tryz.ntmps8 rfl ((((SH.start hA).start_rd rfl hp0_0).start_rd rfl hp1_0).start_rd rfl hp1_1) rfl ?_ hr
 unfold F_impl_HaltWords
 refine J_sr ?_
 refine JL_st wn rfl (st_box' rfl (fun w hh => (cv_aggs ⟨cv_int, cv_int, (hh.cv 2 rfl), trivial⟩))) (fun b1 => ?_)
 refine JL_st wn rfl (st_box' rfl (fun w hh => (cv_aggs ⟨cv_int, (hh.cv 2 rfl), (hh.cv 1 rfl), trivial⟩))) (fun b2 => ?_)
 refine JA rfl rfl ?_
 refine JA rfl rfl ?_
 refine JA rfl rfl ?_
 refine JL_nt ?_
 refine J_seq ?_
 refine J_sr ?_
 refine JL_q wn rfl (ex_load_bx_agg 1 ti_26 rfl rfl rfl rfl) ?_
 refine JL_q wn rfl (ex_load_bx_agg 0 ti_29 rfl rfl rfl rfl) ?_
 refine JL_bnd fun r3 hr4 => ?_
 refine JL_call wn rfl Tryz.call23 rfl (Ca_of0 fun w hh => c_impl_ValidConfig _ w (fun _ hk => hk.elim) _ _ (GMachine.rdmk (Rd.mk_int _ _ _) (Rd.mk_int _ _ _) (hh.rd0 4 rfl)) _ _ (GConfig.rdmk (Rd.mk_int _ _ _) (hh.rd0 3 rfl) (hh.rd0 2 rfl)) _ hr4) (fun _ => ?_)
 refine JL_q wn rfl (ex_not rfl) ?_
 refine JL_nt ?_
 refine J_if rfl (fun h5 => ?_) (fun h5 => ?_)
 ·refine J_sr ?_
  refine JA rfl rfl ?_
  refine JA rfl rfl ?_
  refine JA rfl rfl ?_
  refine JL_nt ?_
  refine J_ret ?_
  refine N_then_ret ?_
  refine N_ctx (fun w hh => SH.ow_nil (α := Int) 2 hh) ?_
  refine N_ctx (fun w hh => hh.tokf 0 rfl rfl) ?_
  refine N_ctx (fun w hh => SH.ow_nil (α := Int) 2 hh) ?_
  exact N_ret3 rfl (rv_tmp rfl) (rv_tmp rfl) (rv_tmp rfl) (fun w hh => ⟨((.slice none 0 0 : Value), ((.slice none 0 0 : Value).ownBlock.toList ++ []), (.slice none 0 0 : Value)), rfl, hh.sel [1, 0] rfl⟩)
 ·refine J_skip ?_
  refine N_then ?_
  refine J_sr ?_
  refine JL_q wn rfl (ex_load_bx_agg 1 ti_26 rfl rfl rfl rfl) ?_
  refine JL_q wn rfl (ex_load_bx_agg 0 ti_29 rfl rfl rfl rfl) ?_
  refine JL_bnd fun r6 hr7 => ?_
  refine JL_call wn rfl Tryz.call30 rfl (Ca_self (fun _ => rfl) fun w hh => c_impl_haltWords _ w (fun _ hk => hk.elim) _ _ (GMachine.rdmk (Rd.mk_int _ _ _) (Rd.mk_int _ _ _) (hh.rd0 4 rfl)) _ _ (GConfig.rdmk (Rd.mk_int _ _ _) (hh.rd0 3 rfl) (hh.rd0 2 rfl)) _ hr7) (fun x8 => ?_)
  obtain ⟨x8_0, x8_1, x8_2⟩ := x8
  refine JL_ctx (fun w hh => hh.tkn_rd 0 rfl) ?_
  refine JL_q wn rfl (ex_extract rfl rfl) ?_
  refine JL_q wn rfl (ex_extract rfl rfl) ?_
  refine JL_q wn rfl (ex_extract rfl rfl) ?_
  refine JA rfl rfl ?_
  refine JA rfl rfl ?_
  refine JA rfl rfl ?_
  refine JL_nt ?_
  refine J_ret ?_
  exact N_ret3 rfl (rv_tmp rfl) (rv_tmp rfl) (rv_tmp rfl) (fun w hh => ⟨(x8_0, x8_1, x8_2), rfl, hh.sel [1, 2] rfl⟩)
set_option maxHeartbeats 40000000 in
theorem c_impl_runCode (A : Nat → Prop) (w : World) (hA : ∀ k, A k → k < w.heap.size) (v0_ : Value) (p0 : GMachine) (hp0 : Rd A w v0_ p0) (v1_ : Value) (p1 : GConfig) (hp1 : Rd A w v1_ p1) (p2 : Int) (r : Int) (hr : F_impl_runCode p0 p1 p2 = some r) :
  Con Tryz.prog 31 [v0_, v1_, .int .i64 p2] A w (fun x_ : Unit => .int .i64 r) (fun x_ => []) := by
 obtain ⟨v0_0, rfl, hp0_0⟩ := GMachine.open hp0
 obtain ⟨v1_0, v1_1, rfl, hp1_0, hp1_1⟩ := GConfig.open hp1
 refine Con_of (v := fun (r : Int) (x_ : Unit) => .int .i64 r) (fs := fun r x_ => []) Tryz.func31 rfl Tryz.ntmps31 rfl ((((SH.start hA).start_rd rfl hp0_0).start_rd rfl hp1_0).start_rd rfl hp1_1) rfl ?_ hr
 unfold F_impl_runCode
 refine J_sr ?_
 refine JL_st wn rfl (st_box' rfl (fun w hh => (cv_aggs ⟨cv_int, cv_int, (hh.cv 2 rfl), trivial⟩))) (fun b1 => ?_)
 refine JL_st wn rfl (st_box' rfl (fun w hh => (cv_aggs ⟨cv_int, (hh.cv 2 rfl), (hh.cv 1 rfl), trivial⟩))) (fun b2 => ?_)
 refine JA rfl rfl ?_
 refine JL_nt ?_
 refine J_seq ?_
 refine J_sr ?_
 refine JL_q wn rfl (ex_load_bx_agg 1 ti_26 rfl rfl rfl rfl) ?_
 refine JL_q wn rfl (ex_load_bx_agg 0 ti_29 rfl rfl rfl rfl) ?_
 refine JL_bnd fun r3 hr4 => ?_
 refine JL_call wn rfl Tryz.call23 rfl (Ca_of0 fun w hh => c_impl_ValidConfig _ w (fun _ hk => hk.elim) _ _ (GMachine.rdmk (Rd.mk_int _ _ _) (Rd.mk_int _ _ _) (hh.rd0 4 rfl)) _ _ (GConfig.rdmk (Rd.mk_int _ _ _) (hh.rd0 3 rfl) (hh.rd0 2 rfl)) _ hr4) (fun _ => ?_)
 refine JL_q wn rfl (ex_not rfl) ?_
 refine JL_nt ?_
 refine J_if rfl (fun h5 => ?_) (fun h5 => ?_)
 ·refine J_sr ?_
  refine JA rfl rfl ?_
  refine JL_nt ?_
  refine J_ret ?_
  refine N_then_ret ?_
  exact N_ret1 rfl (rv_tmp rfl) (fun w hh => ⟨(), rfl, hh.sel [] rfl⟩)
 ·refine J_skip ?_
  refine N_then ?_
  refine J_seq ?_
  refine J_sr ?_
  refine JM rfl rfl ?_
  refine JL_bnd fun r6 hr7 => ?_
  refine JL_call wn rfl Tryz.call24 rfl (Ca_of0 fun w hh => c_impl_budgetOk _ w (fun _ hk => hk.elim) _ _ hr7) (fun _ => ?_)
  refine JL_q wn rfl (ex_not rfl) ?_
  refine JL_nt ?_
  refine J_if rfl (fun h8 => ?_) (fun h8 => ?_)
  ·refine J_sr ?_
   refine JA rfl rfl ?_
   refine JL_nt ?_
   refine J_ret ?_
   refine N_then_ret ?_
   exact N_ret1 rfl (rv_tmp rfl) (fun w hh => ⟨(), rfl, hh.sel [] rfl⟩)
  ·refine J_skip ?_
   refine N_then ?_
   refine J_sr ?_
   refine JA rfl rfl ?_
   refine JL_nt ?_
   refine J_ret ?_
   exact N_ret1 rfl (rv_tmp rfl) (fun w hh => ⟨(), rfl, hh.sel [] rfl⟩)
set_option maxHeartbeats 40000000 in
theorem c_impl_alphabet_onlyMove_1 (A : Nat → Prop) (w : World) (hA : ∀ k, A k → k < w.heap.size) (p0 : Int) (v1_ : Value) (p1 : Galphabet) (hp1 : RdA A w.heap.size w v1_ p1) (r : Bool) (hr : F_impl_alphabet_onlyMove_1 p0 p1 = some r) :
  Con Tryz.prog 114 [.int .i64 p0, v1_] A w (fun x_ : Unit => .bool r) (fun x_ => []) := by
 refine Con_of (v := fun (r : Bool) (x_ : Unit) => .bool r) (fs := fun r x_ => []) Tryz.func114 rfl Tryz.ntmps114 rfl ((SH.start hA).start_pa' rfl hp1) rfl ?_ hr
 unfold F_impl_alphabet_onlyMove_1
 refine J_sr ?_
 refine JA rfl rfl ?_
 refine JL_nt ?_
 refine J_sr ?_
 refine JM rfl rfl ?_
 refine JL_st wn rfl (st_field_pa 0 (Galphabet.at_state _) fi_70_0 rfl rfl rfl) (fun q1 => ?_)
 refine JL_st wn rfl (st_load_pa_o 0 (opens_int _) ti_2 rfl rfl) (fun _ => ?_)
 refine JL_q wn rfl (ex_geq rfl rfl) ?_
 refine JM rfl rfl ?_
 refine JL_cond (fun h3 => ?_) (fun h3 => ?_)
 ·refine JL_q (wants_some rfl rfl rfl h3) rfl (ex_move rfl) ?_
  refine JL_st (wants_some rfl rfl rfl h3) rfl (st_field_pa 1 (Galphabet.at_border _) fi_70_1 rfl rfl rfl) (fun q4 => ?_)
  refine JL_st (wants_some rfl rfl rfl h3) rfl (st_load_pa_o 0 (opens_int _) ti_2 rfl rfl) (fun _ => ?_)
  refine JL_q (wants_some rfl rfl rfl h3) rfl (ex_lss rfl rfl) ?_
  refine JL_q wn rfl (ex_pick_true rfl h3 rfl) ?_
  refine JA rfl rfl ?_
  refine JL_nt ?_
  refine J_ret ?_
  exact N_ret1 rfl (rv_tmp rfl) (fun w hh => ⟨(), rfl, hh.sel [] rfl⟩)
 ·refine JL_passed rfl rfl rfl h3 ?_
  refine JL_passed rfl rfl rfl h3 ?_
  refine JL_passed rfl rfl rfl h3 ?_
  refine JL_passed rfl rfl rfl h3 ?_
  refine JL_q wn rfl (ex_pick_false rfl h3 rfl) ?_
  refine JA rfl rfl ?_
  refine JL_nt ?_
  refine J_ret ?_
  exact N_ret1 rfl (rv_tmp rfl) (fun w hh => ⟨(), rfl, hh.sel [] rfl⟩)
set_option maxHeartbeats 40000000 in
theorem c_slices_IndexFunc_Sint64_int64 (A : Nat → Prop) (w : World) (hA : ∀ k, A k → k < w.heap.size) (v0_ : Value) (p0 : (List Int)) (hp0 : Rd A w v0_ p0) (v1_ : Value) (p1 : (Int → Option Bool)) (hp1 : Clo Tryz.prog w v1_ p1 .bool) (r : Int) (hr : F_slices_IndexFunc_Sint64_int64 p0 p1 = some r) :
  Con Tryz.prog 79 [v0_, v1_] A w (fun x_ : Unit => .int .i64 r) (fun x_ => []) := by
 refine Con_of (v := fun (r : Int) (x_ : Unit) => .int .i64 r) (fs := fun r x_ => []) Tryz.func79 rfl Tryz.ntmps79 rfl ((SH.start hA).start_rd rfl hp0) rfl ?_ hr
 unfold F_slices_IndexFunc_Sint64_int64
 refine J_sr ?_
 refine JA rfl rfl ?_
 refine JL_nt ?_
 refine J_seq ?_
 refine J_sr ?_
 refine JM rfl rfl ?_
 refine JL_q wn rfl (ex_len_rd 0 Tryz.underlying27 rfl rfl) ?_
 refine JM rfl rfl ?_
 refine JL_nt ?_
 refine J_loop' (S := Int) (G := Unit) (F_slices_IndexFunc_Sint64_int64_L1 p0 p1) (fun s1 _ => [(0, v0_), (1, v1_), (7, .int .i64 (p0.length : Int)), (8, .int .i64 s1)]) (fun s1 _ => [.rd v0_ p0]) 0 () ⟨rfl, rfl, rfl, rfl, trivial⟩ [0] rfl rfl (fun s1 g2 => ?_) (fun s1 g2 => ?_)
 ·unfold F_slices_IndexFunc_Sint64_int64_L1
  refine J_sr ?_
  refine JL_q wn rfl (ex_lss rfl rfl) ?_
  refine JL_nt ?_
  refine J_seq ?_
  refine J_if rfl (fun h3 => ?_) (fun h3 => ?_)
  ·refine J_skip ?_
   refine N_then ?_
   refine J_seq ?_
   refine J_block ?_
   refine J_sr ?_
   refine JM rfl rfl ?_
   refine JA rfl rfl ?_
   refine JL_nt ?_
   refine J_sr ?_
   refine JM rfl rfl ?_
   refine JM rfl rfl ?_
   refine JM rfl rfl ?_
   refine JL_bnd fun y4 hy5 => ?_
   refine JL_st wn rfl (st_index 0 Tryz.underlying27 ti_2 rfl rfl rfl hy5) (fun q6 => ?_)
   refine JL_st wn rfl (st_load_pt_o 0 (opens_int _) ti_2 rfl rfl) (fun _ => ?_)
   refine JL_bnd fun r8 hr9 => ?_
   refine JL_clo wn rfl hp1 rfl rfl (fun w hh => (Rd.mk_int _ _ _)) hr9 ?_
   refine JL_nt ?_
   refine J_if rfl (fun h10 => ?_) (fun h10 => ?_)
   ·refine J_sr ?_
    refine JM rfl rfl ?_
    refine JA rfl rfl ?_
    refine JL_nt ?_
    refine J_ret ?_
    refine N_block_ret ?_
    refine N_then_ret ?_
    refine N_round_ret ?_
    refine N_then_ret ?_
    exact N_ret1 rfl (rv_tmp rfl) (fun w hh => ⟨(), rfl, hh.sel [] rfl⟩)
   ·refine J_skip ?_
    refine N_block ?_
    refine N_then ?_
    refine J_region ?_
    refine JL_q wn rfl (ex_add rfl rfl) ?_
    refine JM rfl rfl ?_
    refine JL_nil ?_
    exact N_next' () ⟨rfl, rfl, rfl, rfl, trivial⟩ [1] rfl rfl
  ·refine J_exit ?_
   refine N_then_exit ?_
   exact N_break' () ⟨rfl, rfl, rfl, rfl, trivial⟩ [0] rfl rfl
 ·refine N_then ?_
  refine J_sr ?_
  refine JA rfl rfl ?_
  refine JL_nt ?_
  refine J_ret ?_
  exact N_ret1 rfl (rv_tmp rfl) (fun w hh => ⟨(), rfl, hh.sel [] rfl⟩)
set_option maxHeartbeats 40000000 in
theorem c_slices_Equal_Sint64_int64 (A : Nat → Prop) (w : World) (hA : ∀ k, A k → k < w.heap.size) (v0_ : Value) (p0 : (List Int)) (hp0 : Rd A w v0_ p0) (v1_ : Value) (p1 : (List Int)) (hp1 : Rd A w v1_ p1) (r : Bool) (hr : F_slices_Equal_Sint64_int64 p0 p1 = some r) :
  Con Tryz.prog 42 [v0_, v1_] A w (fun x_ : Unit => .bool r) (fun x_ => []) := by
 refine Con_of (v := fun (r : Bool) (x_ : Unit) => .bool r) (fs := fun r x_ => []) Tryz.func42 rfl Tryz.ntmps42 rfl (((SH.start hA).start_rd rfl hp0).start_rd rfl hp1) rfl ?_ hr
 unfold F_slices_Equal_Sint64_int64
 refine J_sr ?_
 refine JA rfl rfl ?_
 refine JL_nt ?_
 refine J_seq ?_
 refine J_sr ?_
 refine JM rfl rfl ?_
 refine JL_q wn rfl (ex_len_rd 1 Tryz.underlying27 rfl rfl) ?_
 refine JM rfl rfl ?_
 refine JL_q wn rfl (ex_len_rd 0 Tryz.underlying27 rfl rfl) ?_
 refine JL_q wn rfl (ex_neq rfl rfl) ?_
 refine JL_nt ?_
 refine J_if rfl (fun h1 => ?_) (fun h1 => ?_)
 ·refine J_sr ?_
  refine JA rfl rfl ?_
  refine JL_nt ?_
  refine J_ret ?_
  refine N_then_ret ?_
  exact N_ret1 rfl (rv_tmp rfl) (fun w hh => ⟨(), rfl, hh.sel [] rfl⟩)
 ·refine J_skip ?_
  refine N_then ?_
  refine J_seq ?_
  refine J_sr ?_
  refine JM rfl rfl ?_
  refine JL_q wn rfl (ex_len_rd 1 Tryz.underlying27 rfl rfl) ?_
  refine JM rfl rfl ?_
  refine JL_nt ?_
  refine J_loop' (S := Int) (G := Unit) (F_slices_Equal_Sint64_int64_L1 p0 p1) (fun s2 _ => [(0, v0_), (1, v1_), (12, .int .i64 (p0.length : Int)), (13, .int .i64 s2)]) (fun s2 _ => [.rd v0_ p0, .rd v1_ p1]) 0 () ⟨rfl, rfl, rfl, rfl, trivial⟩ [1, 0] rfl rfl (fun s2 g3 => ?_) (fun s2 g3 => ?_)
  ·unfold F_slices_Equal_Sint64_int64_L1
   refine J_sr ?_
   refine JL_q wn rfl (ex_lss rfl rfl) ?_
   refine JL_nt ?_
   refine J_seq ?_
   refine J_if rfl (fun h4 => ?_) (fun h4 => ?_)
   ·refine J_skip ?_
    refine N_then ?_
    refine J_seq ?_
    refine J_block ?_
    refine J_sr ?_
    refine JM rfl rfl ?_
    refine JA rfl rfl ?_
    refine JL_nt ?_
    refine J_seq ?_
    refine J_draw [] (by kernel_rfl) ?_
    refine JP_take (i := 0) [0, 1] [] rfl (by kernel_rfl) (by kernel_rfl) (by kernel_rfl) rfl rfl wn rfl (ex_move rfl) ?_
    refine JP_take (i := 1) [0, 1] [] rfl (by kernel_rfl) (by kernel_rfl) (by kernel_rfl) rfl rfl wn rfl (ex_move rfl) ?_
    refine JP_bnd fun y5 hy6 => ?_
    refine JP_sq (i := 2) [] rfl (by kernel_rfl) (by kernel_rfl) (by kernel_rfl) rfl wn rfl (sq_index 0 Tryz.underlying27 ti_2 rfl rfl rfl hy6) (fun q7 => ?_)
    refine JP_sq (i := 3) [] rfl (by kernel_rfl) (by kernel_rfl) (by kernel_rfl) rfl wn rfl (sq_load_pt_o 0 (opens_int _) ti_2 rfl rfl) (fun _ => ?_)
    refine JP_take (i := 4) [0, 1, 2] [] rfl (by kernel_rfl) (by kernel_rfl) (by kernel_rfl) rfl rfl wn rfl (ex_move rfl) ?_
    refine JP_take (i := 5) [0, 1, 2] [] rfl (by kernel_rfl) (by kernel_rfl) (by kernel_rfl) rfl rfl wn rfl (ex_move rfl) ?_
    refine JP_bnd fun y9 hy10 => ?_
    refine JP_sq (i := 6) [] rfl (by kernel_rfl) (by kernel_rfl) (by kernel_rfl) rfl wn rfl (sq_index 2 Tryz.underlying27 ti_2 rfl rfl rfl hy10) (fun q11 => ?_)
    refine JP_sq (i := 7) [] rfl (by kernel_rfl) (by kernel_rfl) (by kernel_rfl) rfl wn rfl (sq_load_pt_o 0 (opens_int _) ti_2 rfl rfl) (fun _ => ?_)
    refine JP_take (i := 8) [0, 1, 2, 3] [] rfl (by kernel_rfl) (by kernel_rfl) (by kernel_rfl) rfl rfl wn rfl (ex_neq rfl rfl) ?_
    refine JP_go [] [] rfl rfl rfl (fun _ _ _ => ?_)
    refine JD_done (by kernel_rfl) ?_
    refine N_then ?_
    refine J_if rfl (fun h13 => ?_) (fun h13 => ?_)
    ·refine J_sr ?_
     refine JA rfl rfl ?_
     refine JL_nt ?_
     refine J_ret ?_
     refine N_block_ret ?_
     refine N_then_ret ?_
     refine N_round_ret ?_
     refine N_then_ret ?_
     exact N_ret1 rfl (rv_tmp rfl) (fun w hh => ⟨(), rfl, hh.sel [] rfl⟩)
    ·refine J_skip ?_
     refine N_block ?_
     refine N_then ?_
     refine J_region ?_
     refine JL_q wn rfl (ex_add rfl rfl) ?_
     refine JM rfl rfl ?_
     refine JL_nil ?_
     exact N_next' () ⟨rfl, rfl, rfl, rfl, trivial⟩ [2, 3] rfl rfl
   ·refine J_exit ?_
    refine N_then_exit ?_
    exact N_break' () ⟨rfl, rfl, rfl, rfl, trivial⟩ [0, 1] rfl rfl
  ·refine N_then ?_
   refine J_sr ?_
   refine JA rfl rfl ?_
   refine JL_nt ?_
   refine J_ret ?_
   exact N_ret1 rfl (rv_tmp rfl) (fun w hh => ⟨(), rfl, hh.sel [] rfl⟩)
set_option maxHeartbeats 40000000 in
theorem c_impl_begins (A : Nat → Prop) (w : World) (hA : ∀ k, A k → k < w.heap.size) (v0_ : Value) (p0 : (List Int)) (hp0 : Rd A w v0_ p0) (v1_ : Value) (p1 : (List Int)) (hp1 : Rd A w v1_ p1) (r : Bool) (hr : F_impl_begins p0 p1 = some r) :
  Con Tryz.prog 85 [v0_, v1_] A w (fun x_ : Unit => .bool r) (fun x_ => []) := by
 refine Con_of (v := fun (r : Bool) (x_ : Unit) => .bool r) (fs := fun r x_ => []) Tryz.func85 rfl Tryz.ntmps85 rfl (((SH.start hA).start_rd rfl hp0).start_rd rfl hp1) rfl ?_ hr
 unfold F_impl_begins
 refine J_sr ?_
 refine JA rfl rfl ?_
 refine JL_nt ?_
 refine J_sr ?_
 refine JM rfl rfl ?_
 refine JL_q wn rfl (ex_len_rd 1 Tryz.underlying27 rfl rfl) ?_
 refine JM rfl rfl ?_
 refine JL_q wn rfl (ex_len_rd 0 Tryz.underlying27 rfl rfl) ?_
 refine JL_q wn rfl (ex_geq rfl rfl) ?_
 refine JM rfl rfl ?_
 refine JL_cond (fun h1 => ?_) (fun h1 => ?_)
 ·refine JL_q (wants_some rfl rfl rfl h1) rfl (ex_move rfl) ?_
  refine JL_q (wants_some rfl rfl rfl h1) rfl (ex_move rfl) ?_
  refine JL_q (wants_some rfl rfl rfl h1) rfl (ex_len_rd 0 Tryz.underlying27 rfl rfl) ?_
  refine JL_bnd fun z2 hz3 => ?_
  refine JL_st (wants_some rfl rfl rfl h1) rfl (st_slice 1 Tryz.underlying27 ti_2 rfl rfl rfl rfl hz3) (fun v4 => ?_)
  refine JL_q (wants_some rfl rfl rfl h1) rfl (ex_move rfl) ?_
  refine JL_bnd fun r5 hr6 => ?_
  refine JL_call (wants_some rfl rfl rfl h1) rfl Tryz.call42 rfl (Ca_of0 fun w hh => c_slices_Equal_Sint64_int64 _ w (fun _ hk => hk.elim) _ _ (hh.rd0 0 rfl) _ _ (hh.rd0 1 rfl) _ hr6) (fun _ => ?_)
  refine JL_q wn rfl (ex_pick_true rfl h1 rfl) ?_
  refine JA rfl rfl ?_
  refine JL_nt ?_
  refine J_ret ?_
  exact N_ret1 rfl (rv_tmp rfl) (fun w hh => ⟨(), rfl, hh.sel [] rfl⟩)
 ·refine JL_passed rfl rfl rfl h1 ?_
  refine JL_passed rfl rfl rfl h1 ?_
  refine JL_passed rfl rfl rfl h1 ?_
  refine JL_passed rfl rfl rfl h1 ?_
  refine JL_passed rfl rfl rfl h1 ?_
  refine JL_passed rfl rfl rfl h1 ?_
  refine JL_q wn rfl (ex_pick_false rfl h1 rfl) ?_
  refine JA rfl rfl ?_
  refine JL_nt ?_
  refine J_ret ?_
  exact N_ret1 rfl (rv_tmp rfl) (fun w hh => ⟨(), rfl, hh.sel [] rfl⟩)
set_option maxHeartbeats 40000000 in
theorem c_impl_replaced (A : Nat → Prop) (w : World) (hA : ∀ k, A k → k < w.heap.size) (v0_ : Value) (p0 : (List Int)) (hp0 : Rd A w v0_ p0) (p1 : Int) (p2 : Int) (v3_ : Value) (p3 : (List Int)) (hp3 : Rd A w v3_ p3) (r : (List Int)) (hr : F_impl_replaced p0 p1 p2 p3 = some r) :
  Con Tryz.prog 86 [v0_, .int .i64 p1, .int .i64 p2, v3_] A w (fun x_ : Value => x_) (fun x_ => [.ow 2 x_ r]) := by
 refine Con_of (v := fun (r : (List Int)) (x_ : Value) => x_) (fs := fun r x_ => [.ow 2 x_ r]) Tryz.func86 rfl Tryz.ntmps86 rfl (((SH.start hA).start_rd rfl hp0).start_rd rfl hp3) rfl ?_ hr
 unfold F_impl_replaced
 refine J_sr ?_
 refine JA rfl rfl ?_
 refine JL_nt ?_
 refine J_seq ?_
 refine J_draw [] (by kernel_rfl) ?_
 refine JP_take (i := 0) [0, 1] [] rfl (by kernel_rfl) (by kernel_rfl) (by kernel_rfl) rfl rfl wn rfl (ex_move rfl) ?_
 refine JP_take (i := 1) [0, 1] [] rfl (by kernel_rfl) (by kernel_rfl) (by kernel_rfl) rfl rfl wn rfl (ex_move rfl) ?_
 refine JP_bnd fun z1 hz2 => ?_
 refine JP_sq (i := 2) [] rfl (by kernel_rfl) (by kernel_rfl) (by kernel_rfl) rfl wn rfl (sq_slice 1 Tryz.underlying27 ti_2 rfl rfl rfl rfl hz2) (fun v3 => ?_)
 refine JP_take (i := 3) [0, 1, 2] [] rfl (by kernel_rfl) (by kernel_rfl) (by kernel_rfl) rfl rfl wn rfl (ex_move rfl) ?_
 refine JP_take (i := 4) [0, 1, 2] [] rfl (by kernel_rfl) (by kernel_rfl) (by kernel_rfl) rfl rfl wn rfl (ex_move rfl) ?_
 refine JP_take (i := 5) [0, 1, 2] [] rfl (by kernel_rfl) (by kernel_rfl) (by kernel_rfl) rfl rfl wn rfl (ex_move rfl) ?_
 refine JP_take (i := 6) [0, 1, 2] [] rfl (by kernel_rfl) (by kernel_rfl) (by kernel_rfl) rfl rfl wn rfl (ex_move rfl) ?_
 refine JP_take (i := 7) [0, 1, 2] [] rfl (by kernel_rfl) (by kernel_rfl) (by kernel_rfl) rfl rfl wn rfl (ex_add rfl rfl) ?_
 refine JP_bnd fun z4 hz5 => ?_
 refine JP_sq (i := 8) [] rfl (by kernel_rfl) (by kernel_rfl) (by kernel_rfl) rfl wn rfl (sq_slice 2 Tryz.underlying27 ti_2 rfl rfl rfl rfl hz5) (fun v6 => ?_)
 refine JP_go [0, 1, 2, 3] [] rfl rfl rfl (fun w8 h1_9 hp7 => ?_)
 refine JD_one (i := 9) (by kernel_rfl) ?_
 refine JO_st rfl wn rfl (st_buildSlice (vs := [v3, v3_, v6]) ([z1, p3, z4] : List (List Int)) Tryz.underlying39 ti_27 zi_27 rfl rfl rfl (fun w hh => ⟨(hh.rd 1 rfl), (hh.rd 2 rfl), (hh.rd 0 rfl), trivial⟩)) (fun _ hk => nomatch hk) (fun b10 => ?_)
 refine JD_bnd fun r11 hr12 => ?_
 refine JD_one (i := 10) (by kernel_rfl) ?_
 refine JO_call rfl wn rfl Tryz.call45 rfl (Ca_self (fun _ => rfl) fun w hh => c_impl_joined _ w (fun _ hk => hk.elim) _ _ (hh.ow0 0 rfl) _ hr12) (fun x13 => ?_)
 refine JD_take (i := 11) hp7 rfl (by kernel_rfl) (by kernel_rfl) (by kernel_rfl) wn rfl (ex_assign rfl) ?_
 refine JD_done (by kernel_rfl) ?_
 refine N_then ?_
 refine J_ret ?_
 exact N_ret1 rfl (rv_tmp rfl) (fun w hh => ⟨x13, rfl, hh.sel [0] rfl⟩)
end Go.Proofs.YtlepdmenejbleaaGreat
