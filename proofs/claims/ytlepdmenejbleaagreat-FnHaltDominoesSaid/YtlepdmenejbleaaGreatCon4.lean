/-
  Each function of the program computes what its plain function says: printed by program. No condition.
-/
import Derived.Test.YtlepdmenejbleaaGreatFn
import Derived.Test.YtlepdmenejbleaaGreatInf
import Derived.Test.YtlepdmenejbleaaGreatCon1
import Derived.Test.YtlepdmenejbleaaGreatCon2
import Derived.Test.YtlepdmenejbleaaGreatCon3
namespace Go.Proofs.YtlepdmenejbleaaGreat
open Go Go.Tc Go.Fn
set_option linter.unusedVariables false
set_option maxHeartbeats 40000000 in
theorem c_impl_alphabet_onlyMove (A : Nat → Prop) (w : World) (hA : ∀ k, A k → k < w.heap.size) (v0_ : Value) (p0 : Galphabet) (hp0 : Rd A w v0_ p0) (v1_ : Value) (p1 : (List GRewrite)) (hp1 : Rd A w v1_ p1) (v2_ : Value) (p2 : (List Int)) (hp2 : Rd A w v2_ p2) (r : Gmove × Bool) (hr : F_impl_alphabet_onlyMove p0 p1 p2 = some r) :
  Con Tryz.prog 78 [v0_, v1_, v2_] A w (fun x_ : Value => .tuple #[.agg #[.int .i64 r.1.rule, .int .i64 r.1.at_, x_], .bool r.2]) (fun x_ => [.ow 2 x_ r.1.word]) := by
 obtain rfl := Galphabet.open hp0
 refine Con_of (v := fun (r : Gmove × Bool) (x_ : Value) => .tuple #[.agg #[.int .i64 r.1.rule, .int .i64 r.1.at_, x_], .bool r.2]) (fs := fun r x_ => [.ow 2 x_ r.1.word]) Tryz.func78 rfl Tryz.ntmps78 rfl (((SH.start hA).start_rd rfl hp1).start_rd rfl hp2) rfl ?_ hr
 unfold F_impl_alphabet_onlyMove
 refine J_sr ?_
 refine JL_st wn rfl (st_box' rfl (fun w hh => (cv_aggs ⟨cv_int, cv_int, trivial⟩))) (fun b1 => ?_)
 refine JL_st wn rfl (st_alloc zi_74 rfl) (fun b2 => ?_)
 refine JA rfl rfl ?_
 refine JL_nt ?_
 refine J_sr ?_
 refine JL_q wn rfl (ex_makeFunc rfl) ?_
 refine JA rfl rfl ?_
 refine JL_nt ?_
 refine J_sr ?_
 refine JM rfl rfl ?_
 refine JM rfl rfl ?_
 refine JL_bnd fun r3 hr4 => ?_
 refine JL_call wn rfl Tryz.call79 rfl (Ca_of0 fun w hh => c_slices_IndexFunc_Sint64_int64 _ w (fun _ hk => hk.elim) _ _ (hh.rd0 2 rfl) _ _ (Clo.mk (caps := [.pointer (some ⟨b1, 0, none⟩)]) Tryz.call114 (fun w_ hb_ v_ x_ r_ hrd_ hr_ => (by obtain rfl := Rd.int hrd_; exact c_impl_alphabet_onlyMove_1 nowhere w_ (fun _ hk => hk.elim) x_ _ _ ((hh.bx_pa 1 rfl (Galphabet.rdmk (Rd.mk_int _ _ _) (Rd.mk_int _ _ _)) rfl).later hb_) _ hr_))) _ hr4) (fun _ => ?_)
 refine JA rfl rfl ?_
 refine JL_nt ?_
 refine J_seq ?_
 refine J_sr ?_
 refine JM rfl rfl ?_
 refine JL_q wn rfl (ex_len_rd 3 Tryz.underlying34 rfl rfl) ?_
 refine JM rfl rfl ?_
 refine JL_nt ?_
 refine J_loop' (S := Int) (G := Unit) (F_impl_alphabet_onlyMove_L1 p0 p1 p2 r3) (fun s5 _ => [(2, v2_), (6, .pointer (some ⟨b2, 0, none⟩)), (8, .func (.func 114) #[] #[.pointer (some ⟨b1, 0, none⟩)]), (9, .int .i64 r3), (17, v1_), (18, .int .i64 (p1.length : Int)), (19, .int .i64 s5)]) (fun s5 _ => [.rd v2_ p2, .bx b2 74 [.int .i64 0, .int .i64 0, .slice none 0 0], .bx b1 70 [.int .i64 p0.state, .int .i64 p0.border], .rd v1_ p1]) 0 () ⟨rfl, rfl, rfl, rfl, rfl, rfl, rfl, trivial⟩ [2, 0, 1, 3] rfl rfl (fun s5 g6 => ?_) (fun s5 g6 => ?_)
 ·unfold F_impl_alphabet_onlyMove_L1
  refine J_sr ?_
  refine JL_q wn rfl (ex_lss rfl rfl) ?_
  refine JL_nt ?_
  refine J_seq ?_
  refine J_if rfl (fun h7 => ?_) (fun h7 => ?_)
  ·refine J_skip ?_
   refine N_then ?_
   refine J_seq ?_
   refine J_block ?_
   refine J_sr ?_
   refine JM rfl rfl ?_
   refine JL_bnd fun y8 hy9 => ?_
   refine JL_st wn rfl (st_index 3 Tryz.underlying34 ti_88 rfl rfl rfl hy9) (fun q10 => ?_)
   refine JL_st wn rfl (st_load_pt_o 0 (GRewrite.opens _) ti_88 rfl rfl) (fun v11 => ?_)
   refine JL_st wn rfl (st_alloc zi_88 rfl) (fun b12 => ?_)
   refine JA rfl rfl ?_
   refine JL_sk wn (sk_store_bx' 0 ti_88 rfl rfl (fun w hh => (cv_aggs ⟨(hh.cv 1 rfl), (hh.cv 2 rfl), trivial⟩)) rfl rfl rfl rfl) ?_
   refine JL_nt ?_
   refine J_sr ?_
   refine JM rfl rfl ?_
   refine JL_q wn rfl (ex_fieldAddr fi_88_0 rfl rfl) ?_
   refine JL_q wn rfl (ex_load_bx 0 ti_27 rfl rfl rfl) ?_
   refine JM rfl rfl ?_
   refine JL_bnd fun r13 hr14 => ?_
   refine JL_call wn rfl Tryz.call79 rfl (Ca_of0 fun w hh => c_slices_IndexFunc_Sint64_int64 _ w (fun _ hk => hk.elim) _ _ (hh.rd0 1 rfl) _ _ (Clo.mk (caps := [.pointer (some ⟨b1, 0, none⟩)]) Tryz.call114 (fun w_ hb_ v_ x_ r_ hrd_ hr_ => (by obtain rfl := Rd.int hrd_; exact c_impl_alphabet_onlyMove_1 nowhere w_ (fun _ hk => hk.elim) x_ _ _ ((hh.bx_pa 6 rfl (Galphabet.rdmk (Rd.mk_int _ _ _) (Rd.mk_int _ _ _)) rfl).later hb_) _ hr_))) _ hr14) (fun _ => ?_)
   refine JL_q wn rfl (ex_sub rfl rfl) ?_
   refine JA rfl rfl ?_
   refine JL_nt ?_
   refine J_seq ?_
   refine J_cut' (S' := Bool) (G' := Unit) (fun s15 _ => [(2, v2_), (6, .pointer (some ⟨b2, 0, none⟩)), (8, .func (.func 114) #[] #[.pointer (some ⟨b1, 0, none⟩)]), (9, .int .i64 r3), (10, .int .i64 s5), (11, .pointer (some ⟨b12, 0, none⟩)), (12, .int .i64 (w64 (r3 - r13))), (17, v1_), (18, .int .i64 (p1.length : Int)), (19, .int .i64 s5), (39, .bool s15)]) (fun s15 _ => [.rd v2_ p2, .bx b2 74 [.int .i64 0, .int .i64 0, .slice none 0 0], .bx b1 70 [.int .i64 p0.state, .int .i64 p0.border], .rd v11.1 y8.From, .rd v11.2 y8.To, .bx b12 88 [v11.1, v11.2], .rd v1_ p1]) ?_ (fun s15 g16 => ?_)
   ·refine J_draw [] (by kernel_rfl) ?_
    refine JP_take (i := 0) [0, 1, 2, 3, 4, 5, 6, 7] [] rfl (by kernel_rfl) (by kernel_rfl) (by kernel_rfl) rfl rfl wn rfl (ex_move rfl) ?_
    refine JP_take (i := 1) [0, 1, 2, 3, 4, 5, 6, 7] [] rfl (by kernel_rfl) (by kernel_rfl) (by kernel_rfl) rfl rfl wn rfl (ex_geq rfl rfl) ?_
    refine JP_take (i := 2) [0, 1, 2, 3, 4, 5, 6, 7] [] rfl (by kernel_rfl) (by kernel_rfl) (by kernel_rfl) rfl rfl wn rfl (ex_move rfl) ?_
    refine JP_cond (fun h17 => ?_) (fun h17 => ?_)
    ·refine JP_take (i := 3) [0, 1, 2, 3, 4, 5, 6, 7] [] rfl (by kernel_rfl) (by kernel_rfl) (by kernel_rfl) rfl rfl (wants_some rfl rfl rfl h17) rfl (ex_move rfl) ?_
     refine JP_take (i := 4) [0, 1, 2, 3, 4, 5, 6, 7] [] rfl (by kernel_rfl) (by kernel_rfl) (by kernel_rfl) rfl rfl (wants_some rfl rfl rfl h17) rfl (ex_move rfl) ?_
     refine JP_bnd fun z18 hz19 => ?_
     refine JP_sq (i := 5) [] rfl (by kernel_rfl) (by kernel_rfl) (by kernel_rfl) rfl (wants_some rfl rfl rfl h17) rfl (sq_slice 4 Tryz.underlying27 ti_2 rfl rfl rfl rfl hz19) (fun v20 => ?_)
     refine JP_take (i := 6) [0, 1, 2, 3, 4, 5, 6, 7, 8] [] rfl (by kernel_rfl) (by kernel_rfl) (by kernel_rfl) rfl rfl (wants_some rfl rfl rfl h17) rfl (ex_fieldAddr fi_88_0 rfl rfl) ?_
     refine JP_take (i := 7) [0, 1, 2, 3, 4, 5, 6, 7, 8] [] rfl (by kernel_rfl) (by kernel_rfl) (by kernel_rfl) rfl rfl (wants_some rfl rfl rfl h17) rfl (ex_load_bx 1 ti_27 rfl rfl rfl) ?_
     refine JP_go [0, 1, 2, 3, 4, 5, 6, 7, 8] [] rfl rfl rfl (fun w22 h1_23 hp21 => ?_)
     refine JD_bnd fun r24 hr25 => ?_
     refine JD_one (i := 8) (by kernel_rfl) ?_
     refine JO_call rfl (wants_some rfl rfl rfl h17) rfl Tryz.call85 rfl (Ca_of0 fun w hh => c_impl_begins _ w (fun _ hk => hk.elim) _ _ (hh.rd0 0 rfl) _ _ (hh.rd0 2 rfl) _ hr25) (fun _ => ?_)
     refine JD_take (i := 9) hp21 rfl (by kernel_rfl) (by kernel_rfl) (by kernel_rfl) wn rfl (ex_pick_true rfl h17 rfl) ?_
     refine JD_done (by kernel_rfl) ?_
     exact N_meet' () ⟨rfl, rfl, rfl, rfl, rfl, rfl, rfl, rfl, rfl, rfl, rfl, trivial⟩ [5, 6, 7, 2, 3, 1, 8] rfl rfl
    ·refine JP_pass (i := 3) rfl (by kernel_rfl) (by kernel_rfl) (by kernel_rfl) rfl rfl h17 rfl ?_
     refine JP_pass (i := 4) rfl (by kernel_rfl) (by kernel_rfl) (by kernel_rfl) rfl rfl h17 rfl ?_
     refine JP_pass (i := 5) rfl (by kernel_rfl) (by kernel_rfl) (by kernel_rfl) rfl rfl h17 rfl ?_
     refine JP_pass (i := 6) rfl (by kernel_rfl) (by kernel_rfl) (by kernel_rfl) rfl rfl h17 rfl ?_
     refine JP_pass (i := 7) rfl (by kernel_rfl) (by kernel_rfl) (by kernel_rfl) rfl rfl h17 rfl ?_
     refine JP_pass (i := 8) rfl (by kernel_rfl) (by kernel_rfl) (by kernel_rfl) rfl rfl h17 rfl ?_
     refine JP_take (i := 9) [0, 1, 2, 3, 4, 5, 6, 7] [] rfl (by kernel_rfl) (by kernel_rfl) (by kernel_rfl) rfl rfl wn rfl (ex_pick_false rfl h17 rfl) ?_
     refine JP_go [] [] rfl rfl rfl (fun _ _ _ => ?_)
     refine JD_done (by kernel_rfl) ?_
     exact N_meet' () ⟨rfl, rfl, rfl, rfl, rfl, rfl, rfl, rfl, rfl, rfl, rfl, trivial⟩ [4, 5, 6, 1, 2, 0, 7] rfl rfl
   ·refine N_then ?_
    refine J_if rfl (fun h26 => ?_) (fun h26 => ?_)
    ·refine J_sr ?_
     refine JM rfl rfl ?_
     refine JM rfl rfl ?_
     refine JM rfl rfl ?_
     refine JM rfl rfl ?_
     refine JL_q wn rfl (ex_fieldAddr fi_88_0 rfl rfl) ?_
     refine JL_q wn rfl (ex_load_bx 5 ti_27 rfl rfl rfl) ?_
     refine JL_q wn rfl (ex_len_rd 3 Tryz.underlying27 rfl rfl) ?_
     refine JL_q wn rfl (ex_fieldAddr fi_88_1 rfl rfl) ?_
     refine JL_q wn rfl (ex_load_bx 5 ti_27 rfl rfl rfl) ?_
     refine JL_bnd fun r27 hr28 => ?_
     refine JL_call wn rfl Tryz.call86 rfl (Ca_self (fun _ => rfl) fun w hh => c_impl_replaced _ w (fun _ hk => hk.elim) _ _ (hh.rd0 0 rfl) _ _ _ _ (hh.rd0 4 rfl) _ hr28) (fun x29 => ?_)
     refine JL_q wn rfl (ex_build si_74 rfl (.cons fi_74_0 rfl rfl (.cons fi_74_1 rfl rfl (.cons fi_74_2 rfl rfl .nil))) (fun w hh => ⟨cv_int, cv_int, (hh.cv_ow 0 rfl), trivial⟩)) ?_
     refine JL_sk wn (sk_store_bx' 2 ti_74 rfl rfl (fun w hh => (cv_aggs ⟨cv_int, cv_int, (hh.cv_ow 0 rfl), trivial⟩)) rfl rfl rfl rfl) ?_
     refine JA rfl rfl ?_
     refine JL_nt ?_
     refine J_ret ?_
     refine N_block_ret ?_
     refine N_then_ret ?_
     refine N_round_ret ?_
     refine N_then_ret ?_
     exact N_ret2 rfl (rv_cell 2 rfl rfl ti_74 rfl) (rv_tmp rfl) (fun w hh => ⟨x29, rfl, hh.sel [0] rfl⟩)
    ·refine J_skip ?_
     refine N_block ?_
     refine N_then ?_
     refine J_region ?_
     refine JL_q wn rfl (ex_add rfl rfl) ?_
     refine JM rfl rfl ?_
     refine JL_nil ?_
     exact N_next' () ⟨rfl, rfl, rfl, rfl, rfl, rfl, rfl, trivial⟩ [0, 1, 2, 6] rfl rfl
  ·refine J_exit ?_
   refine N_then_exit ?_
   exact N_break' () ⟨rfl, rfl, rfl, rfl, rfl, rfl, rfl, trivial⟩ [0, 1, 2, 3] rfl rfl
 ·refine N_then ?_
  refine J_sr ?_
  refine JL_q wn rfl (ex_build si_74 rfl .nil (fun w hh => trivial)) ?_
  refine JL_sk wn (sk_store_bx' 1 ti_74 rfl rfl (fun w hh => (cv_aggs ⟨cv_int, cv_int, cv_slice, trivial⟩)) rfl rfl rfl rfl) ?_
  refine JA rfl rfl ?_
  refine JL_nt ?_
  refine J_ret ?_
  refine N_ctx (fun w hh => SH.ow_nil (α := Int) 2 hh) ?_
  exact N_ret2 rfl (rv_cell 2 rfl rfl ti_74 rfl) (rv_tmp rfl) (fun w hh => ⟨(.slice none 0 0 : Value), rfl, hh.sel [0] rfl⟩)
set_option maxHeartbeats 40000000 in
theorem c_impl_alphabet_shown_1 (A : Nat → Prop) (w : World) (hA : ∀ k, A k → k < w.heap.size) (p0 : Int) (v1_ : Value) (p1 : Galphabet) (hp1 : RdA A w.heap.size w v1_ p1) (r : Bool) (hr : F_impl_alphabet_shown_1 p0 p1 = some r) :
  Con Tryz.prog 80 [.int .i64 p0, v1_] A w (fun x_ : Unit => .bool r) (fun x_ => []) := by
 refine Con_of (v := fun (r : Bool) (x_ : Unit) => .bool r) (fs := fun r x_ => []) Tryz.func80 rfl Tryz.ntmps80 rfl ((SH.start hA).start_pa' rfl hp1) rfl ?_ hr
 unfold F_impl_alphabet_shown_1
 refine J_sr ?_
 refine JA rfl rfl ?_
 refine JL_nt ?_
 refine J_sr ?_
 refine JM rfl rfl ?_
 refine JL_st wn rfl (st_field_pa 0 (Galphabet.at_state _) fi_70_0 rfl rfl rfl) (fun q1 => ?_)
 refine JL_st wn rfl (st_load_pa_o 0 (opens_int _) ti_2 rfl rfl) (fun _ => ?_)
 refine JL_q wn rfl (ex_geq rfl rfl) ?_
 refine JA rfl rfl ?_
 refine JL_nt ?_
 refine J_ret ?_
 exact N_ret1 rfl (rv_tmp rfl) (fun w hh => ⟨(), rfl, hh.sel [] rfl⟩)
set_option maxHeartbeats 40000000 in
theorem c_impl_trimmed (A : Nat → Prop) (w : World) (hA : ∀ k, A k → k < w.heap.size) (v0_ : Value) (p0 : (List Int)) (hp0 : Rd A w v0_ p0) (r : (List Int)) (hr : F_impl_trimmed p0 = some r) :
  Con Tryz.prog 83 [v0_] A w (fun x_ : Value => x_) (fun x_ => [.pr (Sub v0_ p0 x_ r)]) := by
 refine Con_of (v := fun (r : (List Int)) (x_ : Value) => x_) (fs := fun r x_ => [.pr (Sub v0_ p0 x_ r)]) Tryz.func83 rfl Tryz.ntmps83 rfl ((SH.start hA).start_rd rfl hp0) rfl ?_ hr
 unfold F_impl_trimmed
 refine J_sr ?_
 refine JA rfl rfl ?_
 refine JL_nt ?_
 refine J_seq ?_
 refine J_ctx (fun w hh => hh.cons_pr (p := Sub v0_ p0 v0_ p0) Sub.refl) ?_
 refine J_loop' (S := (List Int)) (G := Value) (F_impl_trimmed_L1) (fun s1 g2 => [(0, g2)]) (fun s1 g2 => [.rd g2 s1, .pr (Sub v0_ p0 g2 s1)]) p0 v0_ ⟨rfl, trivial⟩ [1, 0] rfl rfl (fun s1 g2 => ?_) (fun s1 g2 => ?_)
 ·unfold F_impl_trimmed_L1
  refine J_seq ?_
  refine J_sr ?_
  refine JM rfl rfl ?_
  refine JL_q wn rfl (ex_len_rd 0 Tryz.underlying27 rfl rfl) ?_
  refine JL_q wn rfl (ex_gtr rfl rfl) ?_
  refine JM rfl rfl ?_
  refine JL_cond (fun h3 => ?_) (fun h3 => ?_)
  ·refine JL_q (wants_some rfl rfl rfl h3) rfl (ex_move rfl) ?_
   refine JL_q (wants_some rfl rfl rfl h3) rfl (ex_move rfl) ?_
   refine JL_q (wants_some rfl rfl rfl h3) rfl (ex_len_rd 0 Tryz.underlying27 rfl rfl) ?_
   refine JL_q (wants_some rfl rfl rfl h3) rfl (ex_sub rfl rfl) ?_
   refine JL_bnd fun y4 hy5 => ?_
   refine JL_st (wants_some rfl rfl rfl h3) rfl (st_index 0 Tryz.underlying27 ti_2 rfl rfl rfl hy5) (fun q6 => ?_)
   refine JL_st (wants_some rfl rfl rfl h3) rfl (st_load_pt_o 0 (opens_int _) ti_2 rfl rfl) (fun _ => ?_)
   refine JL_q (wants_some rfl rfl rfl h3) rfl (ex_eql rfl rfl) ?_
   refine JL_q wn rfl (ex_pick_true rfl h3 rfl) ?_
   refine JL_nt ?_
   refine J_if rfl (fun h8 => ?_) (fun h8 => ?_)
   ·refine J_skip ?_
    refine N_then ?_
    refine J_block ?_
    refine J_region ?_
    refine JM rfl rfl ?_
    refine JM rfl rfl ?_
    refine JL_q wn rfl (ex_len_rd 1 Tryz.underlying27 rfl rfl) ?_
    refine JL_q wn rfl (ex_sub rfl rfl) ?_
    refine JL_bnd fun z9 hz10 => ?_
    refine JL_st wn rfl (st_slice_sub 1 Tryz.underlying27 ti_2 rfl rfl rfl rfl hz10) (fun v11 => ?_)
    refine JA rfl rfl ?_
    refine JL_nil ?_
    refine N_block ?_
    refine N_ctx (fun w hh => hh.cons_pr (p := Sub v0_ p0 v11 z9) (Sub.trans (hh.pr 4 rfl) (hh.pr 1 rfl))) ?_
    exact N_next' v11 ⟨rfl, trivial⟩ [1, 0] rfl rfl
   ·refine J_exit ?_
    refine N_then_exit ?_
    refine N_ctx (fun w hh => hh.cons_pr (p := Sub v0_ p0 g2 s1) (hh.pr 2 rfl)) ?_
    exact N_break' g2 ⟨rfl, trivial⟩ [2, 0] rfl rfl
  ·refine JL_passed rfl rfl rfl h3 ?_
   refine JL_passed rfl rfl rfl h3 ?_
   refine JL_passed rfl rfl rfl h3 ?_
   refine JL_passed rfl rfl rfl h3 ?_
   refine JL_passed rfl rfl rfl h3 ?_
   refine JL_passed rfl rfl rfl h3 ?_
   refine JL_passed rfl rfl rfl h3 ?_
   refine JL_q wn rfl (ex_pick_false rfl h3 rfl) ?_
   refine JL_nt ?_
   refine J_if_false rfl rfl ?_
   refine J_exit ?_
   refine N_then_exit ?_
   refine N_ctx (fun w hh => hh.cons_pr (p := Sub v0_ p0 g2 s1) (hh.pr 1 rfl)) ?_
   exact N_break' g2 ⟨rfl, trivial⟩ [1, 0] rfl rfl
 ·refine N_then ?_
  refine J_sr ?_
  refine JM rfl rfl ?_
  refine JA rfl rfl ?_
  refine JL_nt ?_
  refine J_ret ?_
  refine N_ctx (fun w hh => hh.cons_pr (p := Sub v0_ p0 g2 s1) (hh.pr 1 rfl)) ?_
  exact N_ret1 rfl (rv_tmp rfl) (fun w hh => ⟨g2, rfl, hh.sel [0] rfl⟩)
set_option maxHeartbeats 40000000 in
theorem c_impl_alphabet_shown (A : Nat → Prop) (w : World) (hA : ∀ k, A k → k < w.heap.size) (v0_ : Value) (p0 : Galphabet) (hp0 : Rd A w v0_ p0) (v1_ : Value) (p1 : (List Int)) (hp1 : Rd A w v1_ p1) (r : GConfig × Bool) (hr : F_impl_alphabet_shown p0 p1 = some r) :
  Con Tryz.prog 35 [v0_, v1_] A w (fun x_ : Value × List Nat × Value × List Nat => .tuple #[.agg #[.int .i64 r.1.State, x_.1, x_.2.2.1], .bool r.2]) (fun x_ => [.tkn x_.1 r.1.Left x_.2.1, .tkn x_.2.2.1 r.1.Right x_.2.2.2]) := by
 obtain rfl := Galphabet.open hp0
 refine Con_of (v := fun (r : GConfig × Bool) (x_ : Value × List Nat × Value × List Nat) => .tuple #[.agg #[.int .i64 r.1.State, x_.1, x_.2.2.1], .bool r.2]) (fs := fun r x_ => [.tkn x_.1 r.1.Left x_.2.1, .tkn x_.2.2.1 r.1.Right x_.2.2.2]) Tryz.func35 rfl Tryz.ntmps35 rfl ((SH.start hA).start_rd rfl hp1) rfl ?_ hr
 unfold F_impl_alphabet_shown
 refine J_sr ?_
 refine JL_st wn rfl (st_box' rfl (fun w hh => (cv_aggs ⟨cv_int, cv_int, trivial⟩))) (fun b1 => ?_)
 refine JL_st wn rfl (st_alloc zi_29 rfl) (fun b2 => ?_)
 refine JA rfl rfl ?_
 refine JL_nt ?_
 refine J_sr ?_
 refine JM rfl rfl ?_
 refine JL_q wn rfl (ex_len_rd 2 Tryz.underlying27 rfl rfl) ?_
 refine JL_q wn rfl (ex_sub rfl rfl) ?_
 refine JA rfl rfl ?_
 refine JL_nt ?_
 refine J_seq ?_
 refine J_cut' (S' := Unit) (G' := Unit) (fun _ _ => [(1, v1_), (2, .pointer (some ⟨b1, 0, none⟩)), (4, .pointer (some ⟨b2, 0, none⟩)), (6, .int .i64 (w64 ((p1.length : Int) - 1)))]) (fun _ _ => [.rd v1_ p1, .bx b1 70 [.int .i64 p0.state, .int .i64 p0.border], .bx b2 29 [.int .i64 0, .slice none 0 0, .slice none 0 0]]) ?_ (fun s3 g4 => ?_)
 ·refine J_seq ?_
  refine J_draw [] (by kernel_rfl) ?_
  refine JP_take (i := 0) [0, 1, 2] [] rfl (by kernel_rfl) (by kernel_rfl) (by kernel_rfl) rfl rfl wn rfl (ex_move rfl) ?_
  refine JP_take (i := 1) [0, 1, 2] [] rfl (by kernel_rfl) (by kernel_rfl) (by kernel_rfl) rfl rfl wn rfl (ex_lss rfl rfl) ?_
  refine JP_take (i := 2) [0, 1, 2] [] rfl (by kernel_rfl) (by kernel_rfl) (by kernel_rfl) rfl rfl wn rfl (ex_move rfl) ?_
  refine JP_cond (fun h5 => ?_) (fun h5 => ?_)
  ·refine JP_pass (i := 3) rfl (by kernel_rfl) (by kernel_rfl) (by kernel_rfl) rfl rfl h5 rfl ?_
   refine JP_pass (i := 4) rfl (by kernel_rfl) (by kernel_rfl) (by kernel_rfl) rfl rfl h5 rfl ?_
   refine JP_pass (i := 5) rfl (by kernel_rfl) (by kernel_rfl) (by kernel_rfl) rfl rfl h5 rfl ?_
   refine JP_pass (i := 6) rfl (by kernel_rfl) (by kernel_rfl) (by kernel_rfl) rfl rfl h5 rfl ?_
   refine JP_pass (i := 7) rfl (by kernel_rfl) (by kernel_rfl) (by kernel_rfl) rfl rfl h5 rfl ?_
   refine JP_pass (i := 8) rfl (by kernel_rfl) (by kernel_rfl) (by kernel_rfl) rfl rfl h5 rfl ?_
   refine JP_take (i := 9) [0, 1, 2] [] rfl (by kernel_rfl) (by kernel_rfl) (by kernel_rfl) rfl rfl wn rfl (ex_pick_true rfl h5 rfl) ?_
   refine JP_take (i := 10) [0, 1, 2] [] rfl (by kernel_rfl) (by kernel_rfl) (by kernel_rfl) rfl rfl wn rfl (ex_move rfl) ?_
   refine JP_pass (i := 11) rfl (by kernel_rfl) (by kernel_rfl) (by kernel_rfl) rfl rfl rfl rfl ?_
   refine JP_pass (i := 12) rfl (by kernel_rfl) (by kernel_rfl) (by kernel_rfl) rfl rfl rfl rfl ?_
   refine JP_pass (i := 13) rfl (by kernel_rfl) (by kernel_rfl) (by kernel_rfl) rfl rfl rfl rfl ?_
   refine JP_pass (i := 14) rfl (by kernel_rfl) (by kernel_rfl) (by kernel_rfl) rfl rfl rfl rfl ?_
   refine JP_pass (i := 15) rfl (by kernel_rfl) (by kernel_rfl) (by kernel_rfl) rfl rfl rfl rfl ?_
   refine JP_pass (i := 16) rfl (by kernel_rfl) (by kernel_rfl) (by kernel_rfl) rfl rfl rfl rfl ?_
   refine JP_pass (i := 17) rfl (by kernel_rfl) (by kernel_rfl) (by kernel_rfl) rfl rfl rfl rfl ?_
   refine JP_take (i := 18) [0, 1, 2] [] rfl (by kernel_rfl) (by kernel_rfl) (by kernel_rfl) rfl rfl wn rfl (ex_pick_true rfl rfl rfl) ?_
   refine JP_go [] [] rfl rfl rfl (fun _ _ _ => ?_)
   refine JD_done (by kernel_rfl) ?_
   refine N_then ?_
   refine J_if_true rfl rfl ?_
   refine J_sr ?_
   refine JL_q wn rfl (ex_build si_29 rfl .nil (fun w hh => trivial)) ?_
   refine JL_sk wn (sk_store_bx' 0 ti_29 rfl rfl (fun w hh => (cv_aggs ⟨cv_int, cv_slice, cv_slice, trivial⟩)) rfl rfl rfl rfl) ?_
   refine JA rfl rfl ?_
   refine JL_nt ?_
   refine J_ret ?_
   refine N_mid_ret ?_
   refine N_then_ret ?_
   refine N_ctx (fun w hh => SH.ow_nil (α := Int) 2 hh) ?_
   refine N_ctx (fun w hh => hh.tokf 0 rfl rfl) ?_
   refine N_ctx (fun w hh => SH.ow_nil (α := Int) 2 hh) ?_
   refine N_ctx (fun w hh => hh.tokf 0 rfl rfl) ?_
   exact N_ret2 rfl (rv_cell 4 rfl rfl ti_29 rfl) (rv_tmp rfl) (fun w hh => ⟨((.slice none 0 0 : Value), ((.slice none 0 0 : Value).ownBlock.toList ++ []), (.slice none 0 0 : Value), ((.slice none 0 0 : Value).ownBlock.toList ++ [])), rfl, hh.sel [2, 0] rfl⟩)
  ·refine JP_take (i := 3) [0, 1, 2] [] rfl (by kernel_rfl) (by kernel_rfl) (by kernel_rfl) rfl rfl (wants_some rfl rfl rfl h5) rfl (ex_move rfl) ?_
   refine JP_bnd fun y6 hy7 => ?_
   refine JP_sq (i := 4) [] rfl (by kernel_rfl) (by kernel_rfl) (by kernel_rfl) rfl (wants_some rfl rfl rfl h5) rfl (sq_index 2 Tryz.underlying27 ti_2 rfl rfl rfl hy7) (fun q8 => ?_)
   refine JP_sq (i := 5) [] rfl (by kernel_rfl) (by kernel_rfl) (by kernel_rfl) rfl (wants_some rfl rfl rfl h5) rfl (sq_load_pt_o 0 (opens_int _) ti_2 rfl rfl) (fun _ => ?_)
   refine JP_take (i := 6) [0, 1, 2, 3] [] rfl (by kernel_rfl) (by kernel_rfl) (by kernel_rfl) rfl rfl (wants_some rfl rfl rfl h5) rfl (ex_fieldAddr fi_70_1 rfl rfl) ?_
   refine JP_take (i := 7) [0, 1, 2, 3] [] rfl (by kernel_rfl) (by kernel_rfl) (by kernel_rfl) rfl rfl (wants_some rfl rfl rfl h5) rfl (ex_load_bx 2 ti_2 rfl rfl rfl) ?_
   refine JP_take (i := 8) [0, 1, 2, 3] [] rfl (by kernel_rfl) (by kernel_rfl) (by kernel_rfl) rfl rfl (wants_some rfl rfl rfl h5) rfl (ex_neq rfl rfl) ?_
   refine JP_take (i := 9) [0, 1, 2, 3] [] rfl (by kernel_rfl) (by kernel_rfl) (by kernel_rfl) rfl rfl wn rfl (ex_pick_false rfl h5 rfl) ?_
   refine JP_take (i := 10) [0, 1, 2, 3] [] rfl (by kernel_rfl) (by kernel_rfl) (by kernel_rfl) rfl rfl wn rfl (ex_move rfl) ?_
   refine JP_cond (fun h10 => ?_) (fun h10 => ?_)
   ·refine JP_pass (i := 11) rfl (by kernel_rfl) (by kernel_rfl) (by kernel_rfl) rfl rfl h10 rfl ?_
    refine JP_pass (i := 12) rfl (by kernel_rfl) (by kernel_rfl) (by kernel_rfl) rfl rfl h10 rfl ?_
    refine JP_pass (i := 13) rfl (by kernel_rfl) (by kernel_rfl) (by kernel_rfl) rfl rfl h10 rfl ?_
    refine JP_pass (i := 14) rfl (by kernel_rfl) (by kernel_rfl) (by kernel_rfl) rfl rfl h10 rfl ?_
    refine JP_pass (i := 15) rfl (by kernel_rfl) (by kernel_rfl) (by kernel_rfl) rfl rfl h10 rfl ?_
    refine JP_pass (i := 16) rfl (by kernel_rfl) (by kernel_rfl) (by kernel_rfl) rfl rfl h10 rfl ?_
    refine JP_pass (i := 17) rfl (by kernel_rfl) (by kernel_rfl) (by kernel_rfl) rfl rfl h10 rfl ?_
    refine JP_take (i := 18) [0, 1, 2, 3] [] rfl (by kernel_rfl) (by kernel_rfl) (by kernel_rfl) rfl rfl wn rfl (ex_pick_true rfl h10 rfl) ?_
    refine JP_go [] [] rfl rfl rfl (fun _ _ _ => ?_)
    refine JD_done (by kernel_rfl) ?_
    refine N_then ?_
    refine J_if_true rfl rfl ?_
    refine J_sr ?_
    refine JL_q wn rfl (ex_build si_29 rfl .nil (fun w hh => trivial)) ?_
    refine JL_sk wn (sk_store_bx' 1 ti_29 rfl rfl (fun w hh => (cv_aggs ⟨cv_int, cv_slice, cv_slice, trivial⟩)) rfl rfl rfl rfl) ?_
    refine JA rfl rfl ?_
    refine JL_nt ?_
    refine J_ret ?_
    refine N_mid_ret ?_
    refine N_then_ret ?_
    refine N_ctx (fun w hh => SH.ow_nil (α := Int) 2 hh) ?_
    refine N_ctx (fun w hh => hh.tokf 0 rfl rfl) ?_
    refine N_ctx (fun w hh => SH.ow_nil (α := Int) 2 hh) ?_
    refine N_ctx (fun w hh => hh.tokf 0 rfl rfl) ?_
    exact N_ret2 rfl (rv_cell 5 rfl rfl ti_29 rfl) (rv_tmp rfl) (fun w hh => ⟨((.slice none 0 0 : Value), ((.slice none 0 0 : Value).ownBlock.toList ++ []), (.slice none 0 0 : Value), ((.slice none 0 0 : Value).ownBlock.toList ++ [])), rfl, hh.sel [2, 0] rfl⟩)
   ·refine JP_take (i := 11) [0, 1, 2, 3] [] rfl (by kernel_rfl) (by kernel_rfl) (by kernel_rfl) rfl rfl (wants_some rfl rfl rfl h10) rfl (ex_move rfl) ?_
    refine JP_take (i := 12) [0, 1, 2, 3] [] rfl (by kernel_rfl) (by kernel_rfl) (by kernel_rfl) rfl rfl (wants_some rfl rfl rfl h10) rfl (ex_move rfl) ?_
    refine JP_bnd fun y11 hy12 => ?_
    refine JP_sq (i := 13) [] rfl (by kernel_rfl) (by kernel_rfl) (by kernel_rfl) rfl (wants_some rfl rfl rfl h10) rfl (sq_index 3 Tryz.underlying27 ti_2 rfl rfl rfl hy12) (fun q13 => ?_)
    refine JP_sq (i := 14) [] rfl (by kernel_rfl) (by kernel_rfl) (by kernel_rfl) rfl (wants_some rfl rfl rfl h10) rfl (sq_load_pt_o 0 (opens_int _) ti_2 rfl rfl) (fun _ => ?_)
    refine JP_take (i := 15) [0, 1, 2, 3, 4] [] rfl (by kernel_rfl) (by kernel_rfl) (by kernel_rfl) rfl rfl (wants_some rfl rfl rfl h10) rfl (ex_fieldAddr fi_70_1 rfl rfl) ?_
    refine JP_take (i := 16) [0, 1, 2, 3, 4] [] rfl (by kernel_rfl) (by kernel_rfl) (by kernel_rfl) rfl rfl (wants_some rfl rfl rfl h10) rfl (ex_load_bx 3 ti_2 rfl rfl rfl) ?_
    refine JP_take (i := 17) [0, 1, 2, 3, 4] [] rfl (by kernel_rfl) (by kernel_rfl) (by kernel_rfl) rfl rfl (wants_some rfl rfl rfl h10) rfl (ex_neq rfl rfl) ?_
    refine JP_take (i := 18) [0, 1, 2, 3, 4] [] rfl (by kernel_rfl) (by kernel_rfl) (by kernel_rfl) rfl rfl wn rfl (ex_pick_false rfl h10 rfl) ?_
    refine JP_go [] [] rfl rfl rfl (fun _ _ _ => ?_)
    refine JD_done (by kernel_rfl) ?_
    refine N_then ?_
    refine J_if rfl (fun h15 => ?_) (fun h15 => ?_)
    ·refine J_sr ?_
     refine JL_q wn rfl (ex_build si_29 rfl .nil (fun w hh => trivial)) ?_
     refine JL_sk wn (sk_store_bx' 2 ti_29 rfl rfl (fun w hh => (cv_aggs ⟨cv_int, cv_slice, cv_slice, trivial⟩)) rfl rfl rfl rfl) ?_
     refine JA rfl rfl ?_
     refine JL_nt ?_
     refine J_ret ?_
     refine N_mid_ret ?_
     refine N_then_ret ?_
     refine N_ctx (fun w hh => SH.ow_nil (α := Int) 2 hh) ?_
     refine N_ctx (fun w hh => hh.tokf 0 rfl rfl) ?_
     refine N_ctx (fun w hh => SH.ow_nil (α := Int) 2 hh) ?_
     refine N_ctx (fun w hh => hh.tokf 0 rfl rfl) ?_
     exact N_ret2 rfl (rv_cell 6 rfl rfl ti_29 rfl) (rv_tmp rfl) (fun w hh => ⟨((.slice none 0 0 : Value), ((.slice none 0 0 : Value).ownBlock.toList ++ []), (.slice none 0 0 : Value), ((.slice none 0 0 : Value).ownBlock.toList ++ [])), rfl, hh.sel [2, 0] rfl⟩)
    ·refine J_skip ?_
     exact N_meet' () ⟨rfl, rfl, rfl, rfl, trivial⟩ [4, 3, 2] rfl rfl
 ·refine N_then ?_
  refine J_sr ?_
  refine JM rfl rfl ?_
  refine JM rfl rfl ?_
  refine JL_bnd fun z16 hz17 => ?_
  refine JL_st wn rfl (st_slice 0 Tryz.underlying27 ti_2 rfl rfl rfl rfl hz17) (fun v18 => ?_)
  refine JA rfl rfl ?_
  refine JL_nt ?_
  refine J_sr ?_
  refine JM rfl rfl ?_
  refine JL_q wn rfl (ex_makeFunc rfl) ?_
  refine JL_bnd fun r19 hr20 => ?_
  refine JL_call wn rfl Tryz.call79 rfl (Ca_of0 fun w hh => c_slices_IndexFunc_Sint64_int64 _ w (fun _ hk => hk.elim) _ _ (hh.rd0 0 rfl) _ _ (Clo.mk (caps := [.pointer (some ⟨b1, 0, none⟩)]) Tryz.call80 (fun w_ hb_ v_ x_ r_ hrd_ hr_ => (by obtain rfl := Rd.int hrd_; exact c_impl_alphabet_shown_1 nowhere w_ (fun _ hk => hk.elim) x_ _ _ ((hh.bx_pa 2 rfl (Galphabet.rdmk (Rd.mk_int _ _ _) (Rd.mk_int _ _ _)) rfl).later hb_) _ hr_))) _ hr20) (fun _ => ?_)
  refine JA rfl rfl ?_
  refine JL_nt ?_
  refine J_seq ?_
  refine J_cut' (S' := Unit) (G' := Unit) (fun _ _ => [(2, .pointer (some ⟨b1, 0, none⟩)), (4, .pointer (some ⟨b2, 0, none⟩)), (7, v18), (8, .int .i64 r19)]) (fun _ _ => [.bx b1 70 [.int .i64 p0.state, .int .i64 p0.border], .bx b2 29 [.int .i64 0, .slice none 0 0, .slice none 0 0], .rd v18 z16]) ?_ (fun s21 g22 => ?_)
  ·refine J_seq ?_
   refine J_draw [] (by kernel_rfl) ?_
   refine JP_take (i := 0) [0, 1, 2, 3] [] rfl (by kernel_rfl) (by kernel_rfl) (by kernel_rfl) rfl rfl wn rfl (ex_move rfl) ?_
   refine JP_take (i := 1) [0, 1, 2, 3] [] rfl (by kernel_rfl) (by kernel_rfl) (by kernel_rfl) rfl rfl wn rfl (ex_lss rfl rfl) ?_
   refine JP_take (i := 2) [0, 1, 2, 3] [] rfl (by kernel_rfl) (by kernel_rfl) (by kernel_rfl) rfl rfl wn rfl (ex_move rfl) ?_
   refine JP_cond (fun h23 => ?_) (fun h23 => ?_)
   ·refine JP_pass (i := 3) rfl (by kernel_rfl) (by kernel_rfl) (by kernel_rfl) rfl rfl h23 rfl ?_
    refine JP_pass (i := 4) rfl (by kernel_rfl) (by kernel_rfl) (by kernel_rfl) rfl rfl h23 rfl ?_
    refine JP_pass (i := 5) rfl (by kernel_rfl) (by kernel_rfl) (by kernel_rfl) rfl rfl h23 rfl ?_
    refine JP_pass (i := 6) rfl (by kernel_rfl) (by kernel_rfl) (by kernel_rfl) rfl rfl h23 rfl ?_
    refine JP_pass (i := 7) rfl (by kernel_rfl) (by kernel_rfl) (by kernel_rfl) rfl rfl h23 rfl ?_
    refine JP_pass (i := 8) rfl (by kernel_rfl) (by kernel_rfl) (by kernel_rfl) rfl rfl h23 rfl ?_
    refine JP_pass (i := 9) rfl (by kernel_rfl) (by kernel_rfl) (by kernel_rfl) rfl rfl h23 rfl ?_
    refine JP_take (i := 10) [0, 1, 2, 3] [] rfl (by kernel_rfl) (by kernel_rfl) (by kernel_rfl) rfl rfl wn rfl (ex_pick_true rfl h23 rfl) ?_
    refine JP_take (i := 11) [0, 1, 2, 3] [] rfl (by kernel_rfl) (by kernel_rfl) (by kernel_rfl) rfl rfl wn rfl (ex_move rfl) ?_
    refine JP_pass (i := 12) rfl (by kernel_rfl) (by kernel_rfl) (by kernel_rfl) rfl rfl rfl rfl ?_
    refine JP_pass (i := 13) rfl (by kernel_rfl) (by kernel_rfl) (by kernel_rfl) rfl rfl rfl rfl ?_
    refine JP_pass (i := 14) rfl (by kernel_rfl) (by kernel_rfl) (by kernel_rfl) rfl rfl rfl rfl ?_
    refine JP_pass (i := 15) rfl (by kernel_rfl) (by kernel_rfl) (by kernel_rfl) rfl rfl rfl rfl ?_
    refine JP_pass (i := 16) rfl (by kernel_rfl) (by kernel_rfl) (by kernel_rfl) rfl rfl rfl rfl ?_
    refine JP_pass (i := 17) rfl (by kernel_rfl) (by kernel_rfl) (by kernel_rfl) rfl rfl rfl rfl ?_
    refine JP_pass (i := 18) rfl (by kernel_rfl) (by kernel_rfl) (by kernel_rfl) rfl rfl rfl rfl ?_
    refine JP_pass (i := 19) rfl (by kernel_rfl) (by kernel_rfl) (by kernel_rfl) rfl rfl rfl rfl ?_
    refine JP_pass (i := 20) rfl (by kernel_rfl) (by kernel_rfl) (by kernel_rfl) rfl rfl rfl rfl ?_
    refine JP_take (i := 21) [0, 1, 2, 3] [] rfl (by kernel_rfl) (by kernel_rfl) (by kernel_rfl) rfl rfl wn rfl (ex_pick_true rfl rfl rfl) ?_
    refine JP_go [] [] rfl rfl rfl (fun _ _ _ => ?_)
    refine JD_done (by kernel_rfl) ?_
    refine N_then ?_
    refine J_if_true rfl rfl ?_
    refine J_sr ?_
    refine JL_q wn rfl (ex_build si_29 rfl .nil (fun w hh => trivial)) ?_
    refine JL_sk wn (sk_store_bx' 3 ti_29 rfl rfl (fun w hh => (cv_aggs ⟨cv_int, cv_slice, cv_slice, trivial⟩)) rfl rfl rfl rfl) ?_
    refine JA rfl rfl ?_
    refine JL_nt ?_
    refine J_ret ?_
    refine N_mid_ret ?_
    refine N_then_ret ?_
    refine N_ctx (fun w hh => SH.ow_nil (α := Int) 2 hh) ?_
    refine N_ctx (fun w hh => hh.tokf 0 rfl rfl) ?_
    refine N_ctx (fun w hh => SH.ow_nil (α := Int) 2 hh) ?_
    refine N_ctx (fun w hh => hh.tokf 0 rfl rfl) ?_
    exact N_ret2 rfl (rv_cell 7 rfl rfl ti_29 rfl) (rv_tmp rfl) (fun w hh => ⟨((.slice none 0 0 : Value), ((.slice none 0 0 : Value).ownBlock.toList ++ []), (.slice none 0 0 : Value), ((.slice none 0 0 : Value).ownBlock.toList ++ [])), rfl, hh.sel [2, 0] rfl⟩)
   ·refine JP_take (i := 3) [0, 1, 2, 3] [] rfl (by kernel_rfl) (by kernel_rfl) (by kernel_rfl) rfl rfl (wants_some rfl rfl rfl h23) rfl (ex_move rfl) ?_
    refine JP_take (i := 4) [0, 1, 2, 3] [] rfl (by kernel_rfl) (by kernel_rfl) (by kernel_rfl) rfl rfl (wants_some rfl rfl rfl h23) rfl (ex_move rfl) ?_
    refine JP_bnd fun y24 hy25 => ?_
    refine JP_sq (i := 5) [] rfl (by kernel_rfl) (by kernel_rfl) (by kernel_rfl) rfl (wants_some rfl rfl rfl h23) rfl (sq_index 0 Tryz.underlying27 ti_2 rfl rfl rfl hy25) (fun q26 => ?_)
    refine JP_sq (i := 6) [] rfl (by kernel_rfl) (by kernel_rfl) (by kernel_rfl) rfl (wants_some rfl rfl rfl h23) rfl (sq_load_pt_o 0 (opens_int _) ti_2 rfl rfl) (fun _ => ?_)
    refine JP_take (i := 7) [0, 1, 2, 3, 4] [] rfl (by kernel_rfl) (by kernel_rfl) (by kernel_rfl) rfl rfl (wants_some rfl rfl rfl h23) rfl (ex_fieldAddr fi_70_1 rfl rfl) ?_
    refine JP_take (i := 8) [0, 1, 2, 3, 4] [] rfl (by kernel_rfl) (by kernel_rfl) (by kernel_rfl) rfl rfl (wants_some rfl rfl rfl h23) rfl (ex_load_bx 3 ti_2 rfl rfl rfl) ?_
    refine JP_take (i := 9) [0, 1, 2, 3, 4] [] rfl (by kernel_rfl) (by kernel_rfl) (by kernel_rfl) rfl rfl (wants_some rfl rfl rfl h23) rfl (ex_geq rfl rfl) ?_
    refine JP_take (i := 10) [0, 1, 2, 3, 4] [] rfl (by kernel_rfl) (by kernel_rfl) (by kernel_rfl) rfl rfl wn rfl (ex_pick_false rfl h23 rfl) ?_
    refine JP_take (i := 11) [0, 1, 2, 3, 4] [] rfl (by kernel_rfl) (by kernel_rfl) (by kernel_rfl) rfl rfl wn rfl (ex_move rfl) ?_
    refine JP_cond (fun h28 => ?_) (fun h28 => ?_)
    ·refine JP_pass (i := 12) rfl (by kernel_rfl) (by kernel_rfl) (by kernel_rfl) rfl rfl h28 rfl ?_
     refine JP_pass (i := 13) rfl (by kernel_rfl) (by kernel_rfl) (by kernel_rfl) rfl rfl h28 rfl ?_
     refine JP_pass (i := 14) rfl (by kernel_rfl) (by kernel_rfl) (by kernel_rfl) rfl rfl h28 rfl ?_
     refine JP_pass (i := 15) rfl (by kernel_rfl) (by kernel_rfl) (by kernel_rfl) rfl rfl h28 rfl ?_
     refine JP_pass (i := 16) rfl (by kernel_rfl) (by kernel_rfl) (by kernel_rfl) rfl rfl h28 rfl ?_
     refine JP_pass (i := 17) rfl (by kernel_rfl) (by kernel_rfl) (by kernel_rfl) rfl rfl h28 rfl ?_
     refine JP_pass (i := 18) rfl (by kernel_rfl) (by kernel_rfl) (by kernel_rfl) rfl rfl h28 rfl ?_
     refine JP_pass (i := 19) rfl (by kernel_rfl) (by kernel_rfl) (by kernel_rfl) rfl rfl h28 rfl ?_
     refine JP_pass (i := 20) rfl (by kernel_rfl) (by kernel_rfl) (by kernel_rfl) rfl rfl h28 rfl ?_
     refine JP_take (i := 21) [0, 1, 2, 3, 4] [] rfl (by kernel_rfl) (by kernel_rfl) (by kernel_rfl) rfl rfl wn rfl (ex_pick_true rfl h28 rfl) ?_
     refine JP_go [] [] rfl rfl rfl (fun _ _ _ => ?_)
     refine JD_done (by kernel_rfl) ?_
     refine N_then ?_
     refine J_if_true rfl rfl ?_
     refine J_sr ?_
     refine JL_q wn rfl (ex_build si_29 rfl .nil (fun w hh => trivial)) ?_
     refine JL_sk wn (sk_store_bx' 4 ti_29 rfl rfl (fun w hh => (cv_aggs ⟨cv_int, cv_slice, cv_slice, trivial⟩)) rfl rfl rfl rfl) ?_
     refine JA rfl rfl ?_
     refine JL_nt ?_
     refine J_ret ?_
     refine N_mid_ret ?_
     refine N_then_ret ?_
     refine N_ctx (fun w hh => SH.ow_nil (α := Int) 2 hh) ?_
     refine N_ctx (fun w hh => hh.tokf 0 rfl rfl) ?_
     refine N_ctx (fun w hh => SH.ow_nil (α := Int) 2 hh) ?_
     refine N_ctx (fun w hh => hh.tokf 0 rfl rfl) ?_
     exact N_ret2 rfl (rv_cell 8 rfl rfl ti_29 rfl) (rv_tmp rfl) (fun w hh => ⟨((.slice none 0 0 : Value), ((.slice none 0 0 : Value).ownBlock.toList ++ []), (.slice none 0 0 : Value), ((.slice none 0 0 : Value).ownBlock.toList ++ [])), rfl, hh.sel [2, 0] rfl⟩)
    ·refine JP_take (i := 12) [0, 1, 2, 3, 4] [] rfl (by kernel_rfl) (by kernel_rfl) (by kernel_rfl) rfl rfl (wants_some rfl rfl rfl h28) rfl (ex_move rfl) ?_
     refine JP_take (i := 13) [0, 1, 2, 3, 4] [] rfl (by kernel_rfl) (by kernel_rfl) (by kernel_rfl) rfl rfl (wants_some rfl rfl rfl h28) rfl (ex_move rfl) ?_
     refine JP_take (i := 14) [0, 1, 2, 3, 4] [] rfl (by kernel_rfl) (by kernel_rfl) (by kernel_rfl) rfl rfl (wants_some rfl rfl rfl h28) rfl (ex_add rfl rfl) ?_
     refine JP_bnd fun z29 hz30 => ?_
     refine JP_sq (i := 15) [] rfl (by kernel_rfl) (by kernel_rfl) (by kernel_rfl) rfl (wants_some rfl rfl rfl h28) rfl (sq_slice 1 Tryz.underlying27 ti_2 rfl rfl rfl rfl hz30) (fun v31 => ?_)
     refine JP_take (i := 16) [0, 1, 2, 3, 4, 5] [] rfl (by kernel_rfl) (by kernel_rfl) (by kernel_rfl) rfl rfl (wants_some rfl rfl rfl h28) rfl (ex_fieldAddr fi_70_0 rfl rfl) ?_
     refine JP_take (i := 17) [0, 1, 2, 3, 4, 5] [] rfl (by kernel_rfl) (by kernel_rfl) (by kernel_rfl) rfl rfl (wants_some rfl rfl rfl h28) rfl (ex_load_bx 4 ti_2 rfl rfl rfl) ?_
     refine JP_take (i := 18) [0, 1, 2, 3, 4, 5] [] rfl (by kernel_rfl) (by kernel_rfl) (by kernel_rfl) rfl rfl (wants_some rfl rfl rfl h28) rfl (ex_sub rfl rfl) ?_
     refine JP_go [0, 1, 2, 3, 4, 5] [] rfl rfl rfl (fun w33 h1_34 hp32 => ?_)
     refine JD_bnd fun r35 hr36 => ?_
     refine JD_one (i := 19) (by kernel_rfl) ?_
     refine JO_call rfl (wants_some rfl rfl rfl h28) rfl Tryz.call81 rfl (Ca_of0 fun w hh => c_impl_allWithin _ w (fun _ hk => hk.elim) _ _ (hh.rd0 0 rfl) _ _ _ hr36) (fun _ => ?_)
     refine JD_take (i := 20) hp32 rfl (by kernel_rfl) (by kernel_rfl) (by kernel_rfl) (wants_some rfl rfl rfl h28) rfl (ex_not rfl) ?_
     refine JD_take (i := 21) hp32 rfl (by kernel_rfl) (by kernel_rfl) (by kernel_rfl) wn rfl (ex_pick_false rfl h28 rfl) ?_
     refine JD_done (by kernel_rfl) ?_
     refine N_then ?_
     refine J_if rfl (fun h37 => ?_) (fun h37 => ?_)
     ·refine J_sr ?_
      refine JL_q wn rfl (ex_build si_29 rfl .nil (fun w hh => trivial)) ?_
      refine JL_sk wn (sk_store_bx' 5 ti_29 rfl rfl (fun w hh => (cv_aggs ⟨cv_int, cv_slice, cv_slice, trivial⟩)) rfl rfl rfl rfl) ?_
      refine JA rfl rfl ?_
      refine JL_nt ?_
      refine J_ret ?_
      refine N_mid_ret ?_
      refine N_then_ret ?_
      refine N_ctx (fun w hh => SH.ow_nil (α := Int) 2 hh) ?_
      refine N_ctx (fun w hh => hh.tokf 0 rfl rfl) ?_
      refine N_ctx (fun w hh => SH.ow_nil (α := Int) 2 hh) ?_
      refine N_ctx (fun w hh => hh.tokf 0 rfl rfl) ?_
      exact N_ret2 rfl (rv_cell 9 rfl rfl ti_29 rfl) (rv_tmp rfl) (fun w hh => ⟨((.slice none 0 0 : Value), ((.slice none 0 0 : Value).ownBlock.toList ++ []), (.slice none 0 0 : Value), ((.slice none 0 0 : Value).ownBlock.toList ++ [])), rfl, hh.sel [2, 0] rfl⟩)
     ·refine J_skip ?_
      exact N_meet' () ⟨rfl, rfl, rfl, rfl, trivial⟩ [4, 5, 2] rfl rfl
  ·refine N_then ?_
   refine J_seq ?_
   refine J_draw [] (by kernel_rfl) ?_
   refine JP_take (i := 0) [0, 1, 2] [] rfl (by kernel_rfl) (by kernel_rfl) (by kernel_rfl) rfl rfl wn rfl (ex_move rfl) ?_
   refine JP_take (i := 1) [0, 1, 2] [] rfl (by kernel_rfl) (by kernel_rfl) (by kernel_rfl) rfl rfl wn rfl (ex_move rfl) ?_
   refine JP_bnd fun z38 hz39 => ?_
   refine JP_sq (i := 2) [] rfl (by kernel_rfl) (by kernel_rfl) (by kernel_rfl) rfl wn rfl (sq_slice 2 Tryz.underlying27 ti_2 rfl rfl rfl rfl hz39) (fun v40 => ?_)
   refine JP_take (i := 4) [0, 1, 2, 3] [] rfl (by kernel_rfl) (by kernel_rfl) (by kernel_rfl) rfl rfl wn rfl (ex_move rfl) ?_
   refine JP_take (i := 5) [0, 1, 2, 3] [] rfl (by kernel_rfl) (by kernel_rfl) (by kernel_rfl) rfl rfl wn rfl (ex_move rfl) ?_
   refine JP_take (i := 6) [0, 1, 2, 3] [] rfl (by kernel_rfl) (by kernel_rfl) (by kernel_rfl) rfl rfl wn rfl (ex_add rfl rfl) ?_
   refine JP_bnd fun z41 hz42 => ?_
   refine JP_sq (i := 7) [] rfl (by kernel_rfl) (by kernel_rfl) (by kernel_rfl) rfl wn rfl (sq_slice 3 Tryz.underlying27 ti_2 rfl rfl rfl rfl hz42) (fun v43 => ?_)
   refine JP_go [0, 1, 2, 3, 4] [] rfl rfl rfl (fun w45 h1_46 hp44 => ?_)
   refine JD_bnd fun r47 hr48 => ?_
   refine JD_one (i := 3) (by kernel_rfl) ?_
   refine JO_call rfl wn rfl Tryz.call65 rfl (Ca_self (fun _ => rfl) fun w hh => c_impl_reversed _ w (fun _ hk => hk.elim) _ _ (hh.rd0 1 rfl) _ hr48) (fun x49 => ?_)
   refine JD_bnd fun r50 hr51 => ?_
   refine JD_one (i := 8) (by kernel_rfl) ?_
   refine JO_call rfl wn rfl Tryz.call82 rfl (Ca_self (fun _ => rfl) fun w hh => c_slices_Clone_Sint64_int64 _ w (fun _ hk => hk.elim) _ _ (hh.rd0 1 rfl) _ hr51) (fun x52 => ?_)
   refine JD_take (i := 9) hp44 rfl (by kernel_rfl) (by kernel_rfl) (by kernel_rfl) wn rfl (ex_assign rfl) ?_
   refine JD_take (i := 10) hp44 rfl (by kernel_rfl) (by kernel_rfl) (by kernel_rfl) wn rfl (ex_assign rfl) ?_
   refine JD_done (by kernel_rfl) ?_
   refine N_then ?_
   refine J_seq ?_
   refine J_draw [5] (by kernel_rfl) ?_
   refine JP_take (i := 0) [0, 1, 2, 3, 4, 6] [5] rfl (by kernel_rfl) (by kernel_rfl) (by kernel_rfl) rfl rfl wn rfl (ex_move rfl) ?_
   refine JP_take (i := 1) [0, 1, 2, 3, 4, 6] [5] rfl (by kernel_rfl) (by kernel_rfl) (by kernel_rfl) rfl rfl wn rfl (ex_move rfl) ?_
   refine JP_bnd fun y53 hy54 => ?_
   refine JP_sq (i := 2) [5] rfl (by kernel_rfl) (by kernel_rfl) (by kernel_rfl) rfl wn rfl (sq_index 6 Tryz.underlying27 ti_2 rfl rfl rfl hy54) (fun q55 => ?_)
   refine JP_sq (i := 3) [6] rfl (by kernel_rfl) (by kernel_rfl) (by kernel_rfl) rfl wn rfl (sq_load_pt_o 0 (opens_int _) ti_2 rfl rfl) (fun _ => ?_)
   refine JP_take (i := 4) [0, 1, 2, 3, 4, 5, 7] [6] rfl (by kernel_rfl) (by kernel_rfl) (by kernel_rfl) rfl rfl wn rfl (ex_fieldAddr fi_70_0 rfl rfl) ?_
   refine JP_take (i := 5) [0, 1, 2, 3, 4, 5, 7] [6] rfl (by kernel_rfl) (by kernel_rfl) (by kernel_rfl) rfl rfl wn rfl (ex_load_bx 5 ti_2 rfl rfl rfl) ?_
   refine JP_take (i := 6) [0, 1, 2, 3, 4, 5, 7] [6] rfl (by kernel_rfl) (by kernel_rfl) (by kernel_rfl) rfl rfl wn rfl (ex_sub rfl rfl) ?_
   refine JP_take (i := 7) [0, 1, 2, 3, 4, 5, 7] [6] rfl (by kernel_rfl) (by kernel_rfl) (by kernel_rfl) rfl rfl wn rfl (ex_move rfl) ?_
   refine JP_take (i := 9) [0, 1, 2, 3, 4, 5, 7] [6] rfl (by kernel_rfl) (by kernel_rfl) (by kernel_rfl) rfl rfl wn rfl (ex_move rfl) ?_
   refine JP_go [0, 1, 2, 3, 4, 5, 7] [6] rfl rfl rfl (fun w58 h1_59 hp57 => ?_)
   refine JD_bnd fun r60 hr61 => ?_
   refine JD_one (i := 8) (by kernel_rfl) ?_
   refine JO_call rfl wn rfl Tryz.call83 rfl (Ca_self (fun _ => rfl) fun w hh => c_impl_trimmed _ w (fun _ hk => hk.elim) _ _ (hh.ow0 2 rfl) _ hr61) (fun x62 => ?_)
   refine JD_ctx (fun w hh => hh.tokf 3 rfl rfl) (tokf_owns (i := 3) rfl) ?_
   refine JD_ctx (fun w hh => hh.sub_rd 4 rfl (hh.pr 1 rfl)) (fun _ hb => hb) ?_
   refine JD_ctx (fun w hh => hh.sub_tkn 1 rfl (hh.pr 2 rfl)) (tkn_owns (i := 1) rfl) ?_
   refine JD_bnd fun r63 hr64 => ?_
   refine JD_one (i := 10) (by kernel_rfl) ?_
   refine JO_call rfl wn rfl Tryz.call83 rfl (Ca_self (fun _ => rfl) fun w hh => c_impl_trimmed _ w (fun _ hk => hk.elim) _ _ (hh.ow0 4 rfl) _ hr64) (fun x65 => ?_)
   refine JD_ctx (fun w hh => hh.tokf 5 rfl rfl) (tokf_owns (i := 5) rfl) ?_
   refine JD_ctx (fun w hh => hh.sub_rd 6 rfl (hh.pr 1 rfl)) (fun _ hb => hb) ?_
   refine JD_ctx (fun w hh => hh.sub_tkn 1 rfl (hh.pr 2 rfl)) (tkn_owns (i := 1) rfl) ?_
   refine JD_one (i := 11) (by kernel_rfl) ?_
   refine JO_q rfl wn rfl (ex_build si_29 rfl (.cons fi_29_0 rfl rfl (.cons fi_29_1 rfl rfl (.cons fi_29_2 rfl rfl .nil))) (fun w hh => ⟨cv_int, (hh.cv 3 rfl), (hh.cv 0 rfl), trivial⟩)) ?_
   refine JD_one (i := 12) (by kernel_rfl) ?_
   refine JO_sk rfl wn (sk_store_bx' 12 ti_29 rfl rfl (fun w hh => (cv_aggs ⟨cv_int, (hh.cv 3 rfl), (hh.cv 0 rfl), trivial⟩)) rfl rfl rfl rfl) (sub_bx 0 rfl) ?_
   refine JD_take (i := 13) hp57 rfl (by kernel_rfl) (by kernel_rfl) (by kernel_rfl) wn rfl (ex_assign rfl) ?_
   refine JD_done (by kernel_rfl) ?_
   refine N_then ?_
   refine J_ret ?_
   exact N_ret2 rfl (rv_cell 12 rfl rfl ti_29 rfl) (rv_tmp rfl) (fun w hh => ⟨(x62, ((x49 : Value).ownBlock.toList ++ []), x65, ((x52 : Value).ownBlock.toList ++ [])), rfl, hh.sel [4, 1] rfl⟩)
set_option maxHeartbeats 40000000 in
theorem c_impl_roomy (A : Nat → Prop) (w : World) (hA : ∀ k, A k → k < w.heap.size) (v0_ : Value) (p0 : GConfig) (hp0 : Rd A w v0_ p0) (r : Bool) (hr : F_impl_roomy p0 = some r) :
  Con Tryz.prog 36 [v0_] A w (fun x_ : Unit => .bool r) (fun x_ => []) := by
 obtain ⟨v0_0, v0_1, rfl, hp0_0, hp0_1⟩ := GConfig.open hp0
 refine Con_of (v := fun (r : Bool) (x_ : Unit) => .bool r) (fs := fun r x_ => []) Tryz.func36 rfl Tryz.ntmps36 rfl (((SH.start hA).start_rd rfl hp0_0).start_rd rfl hp0_1) rfl ?_ hr
 unfold F_impl_roomy
 refine J_sr ?_
 refine JL_st wn rfl (st_box' rfl (fun w hh => (cv_aggs ⟨cv_int, (hh.cv 1 rfl), (hh.cv 0 rfl), trivial⟩))) (fun b1 => ?_)
 refine JA rfl rfl ?_
 refine JL_nt ?_
 refine J_sr ?_
 refine JL_q wn rfl (ex_fieldAddr fi_29_1 rfl rfl) ?_
 refine JL_q wn rfl (ex_load_bx 0 ti_27 rfl rfl rfl) ?_
 refine JL_q wn rfl (ex_len_rd 2 Tryz.underlying27 rfl rfl) ?_
 refine JL_q wn rfl (ex_leq rfl rfl) ?_
 refine JM rfl rfl ?_
 refine JL_cond (fun h2 => ?_) (fun h2 => ?_)
 ·refine JL_q (wants_some rfl rfl rfl h2) rfl (ex_fieldAddr fi_29_2 rfl rfl) ?_
  refine JL_q (wants_some rfl rfl rfl h2) rfl (ex_load_bx 0 ti_27 rfl rfl rfl) ?_
  refine JL_q (wants_some rfl rfl rfl h2) rfl (ex_len_rd 1 Tryz.underlying27 rfl rfl) ?_
  refine JL_q (wants_some rfl rfl rfl h2) rfl (ex_leq rfl rfl) ?_
  refine JL_q wn rfl (ex_pick_true rfl h2 rfl) ?_
  refine JA rfl rfl ?_
  refine JL_nt ?_
  refine J_ret ?_
  exact N_ret1 rfl (rv_tmp rfl) (fun w hh => ⟨(), rfl, hh.sel [] rfl⟩)
 ·refine JL_passed rfl rfl rfl h2 ?_
  refine JL_passed rfl rfl rfl h2 ?_
  refine JL_passed rfl rfl rfl h2 ?_
  refine JL_passed rfl rfl rfl h2 ?_
  refine JL_q wn rfl (ex_pick_false rfl h2 rfl) ?_
  refine JA rfl rfl ?_
  refine JL_nt ?_
  refine J_ret ?_
  exact N_ret1 rfl (rv_tmp rfl) (fun w hh => ⟨(), rfl, hh.sel [] rfl⟩)
set_option maxHeartbeats 40000000 in
theorem c_slices_Index_Sint64_int64 (A : Nat → Prop) (w : World) (hA : ∀ k, A k → k < w.heap.size) (v0_ : Value) (p0 : (List Int)) (hp0 : Rd A w v0_ p0) (p1 : Int) (r : Int) (hr : F_slices_Index_Sint64_int64 p0 p1 = some r) :
  Con Tryz.prog 84 [v0_, .int .i64 p1] A w (fun x_ : Unit => .int .i64 r) (fun x_ => []) := by
 refine Con_of (v := fun (r : Int) (x_ : Unit) => .int .i64 r) (fs := fun r x_ => []) Tryz.func84 rfl Tryz.ntmps84 rfl ((SH.start hA).start_rd rfl hp0) rfl ?_ hr
 unfold F_slices_Index_Sint64_int64
 refine J_sr ?_
 refine JA rfl rfl ?_
 refine JL_nt ?_
 refine J_seq ?_
 refine J_sr ?_
 refine JM rfl rfl ?_
 refine JL_q wn rfl (ex_len_rd 0 Tryz.underlying27 rfl rfl) ?_
 refine JM rfl rfl ?_
 refine JL_nt ?_
 refine J_loop' (S := Int) (G := Unit) (F_slices_Index_Sint64_int64_L1 p0 p1) (fun s1 _ => [(0, v0_), (1, .int .i64 p1), (7, .int .i64 (p0.length : Int)), (8, .int .i64 s1)]) (fun s1 _ => [.rd v0_ p0]) 0 () ⟨rfl, rfl, rfl, rfl, trivial⟩ [0] rfl rfl (fun s1 g2 => ?_) (fun s1 g2 => ?_)
 ·unfold F_slices_Index_Sint64_int64_L1
  refine J_sr ?_
  refine JL_q wn rfl (ex_lss rfl rfl) ?_
  refine JL_nt ?_
  refine J_seq ?_
  refine J_if rfl (fun h3 => ?_) (fun h3 => ?_)
  ·refine J_skip ?_
   refine N_then ?_
   refine J_seq ?_
   refine J_block ?_
   refine J_sr ?_
   refine JM rfl rfl ?_
   refine JA rfl rfl ?_
   refine JL_nt ?_
   refine J_sr ?_
   refine JM rfl rfl ?_
   refine JM rfl rfl ?_
   refine JM rfl rfl ?_
   refine JL_bnd fun y4 hy5 => ?_
   refine JL_st wn rfl (st_index 0 Tryz.underlying27 ti_2 rfl rfl rfl hy5) (fun q6 => ?_)
   refine JL_st wn rfl (st_load_pt_o 0 (opens_int _) ti_2 rfl rfl) (fun _ => ?_)
   refine JL_q wn rfl (ex_eql rfl rfl) ?_
   refine JL_nt ?_
   refine J_if rfl (fun h8 => ?_) (fun h8 => ?_)
   ·refine J_sr ?_
    refine JM rfl rfl ?_
    refine JA rfl rfl ?_
    refine JL_nt ?_
    refine J_ret ?_
    refine N_block_ret ?_
    refine N_then_ret ?_
    refine N_round_ret ?_
    refine N_then_ret ?_
    exact N_ret1 rfl (rv_tmp rfl) (fun w hh => ⟨(), rfl, hh.sel [] rfl⟩)
   ·refine J_skip ?_
    refine N_block ?_
    refine N_then ?_
    refine J_region ?_
    refine JL_q wn rfl (ex_add rfl rfl) ?_
    refine JM rfl rfl ?_
    refine JL_nil ?_
    exact N_next' () ⟨rfl, rfl, rfl, rfl, trivial⟩ [1] rfl rfl
  ·refine J_exit ?_
   refine N_then_exit ?_
   exact N_break' () ⟨rfl, rfl, rfl, rfl, trivial⟩ [0] rfl rfl
 ·refine N_then ?_
  refine J_sr ?_
  refine JA rfl rfl ?_
  refine JL_nt ?_
  refine J_ret ?_
  exact N_ret1 rfl (rv_tmp rfl) (fun w hh => ⟨(), rfl, hh.sel [] rfl⟩)
set_option maxHeartbeats 40000000 in
theorem c_impl_erasing (A : Nat → Prop) (w : World) (hA : ∀ k, A k → k < w.heap.size) (v0_ : Value) (p0 : (List GRewrite)) (hp0 : Rd A w v0_ p0) (p1 : Int) (v2_ : Value) (p2 : (List Int)) (hp2 : Rd A w v2_ p2) (p3 : Int) (r : Gmove × Bool) (hr : F_impl_erasing p0 p1 p2 p3 = some r) :
  Con Tryz.prog 37 [v0_, .int .i64 p1, v2_, .int .i64 p3] A w (fun x_ : Value => .tuple #[.agg #[.int .i64 r.1.rule, .int .i64 r.1.at_, x_], .bool r.2]) (fun x_ => [.ow 2 x_ r.1.word]) := by
 refine Con_of (v := fun (r : Gmove × Bool) (x_ : Value) => .tuple #[.agg #[.int .i64 r.1.rule, .int .i64 r.1.at_, x_], .bool r.2]) (fs := fun r x_ => [.ow 2 x_ r.1.word]) Tryz.func37 rfl Tryz.ntmps37 rfl (((SH.start hA).start_rd rfl hp0).start_rd rfl hp2) rfl ?_ hr
 unfold F_impl_erasing
 refine J_sr ?_
 refine JL_st wn rfl (st_alloc zi_74 rfl) (fun b1 => ?_)
 refine JA rfl rfl ?_
 refine JL_nt ?_
 refine J_sr ?_
 refine JM rfl rfl ?_
 refine JM rfl rfl ?_
 refine JL_bnd fun r2 hr3 => ?_
 refine JL_call wn rfl Tryz.call84 rfl (Ca_of0 fun w hh => c_slices_Index_Sint64_int64 _ w (fun _ hk => hk.elim) _ _ (hh.rd0 1 rfl) _ _ hr3) (fun _ => ?_)
 refine JA rfl rfl ?_
 refine JL_nt ?_
 refine J_seq ?_
 refine J_sr ?_
 refine JM rfl rfl ?_
 refine JA rfl rfl ?_
 refine JL_nt ?_
 refine J_loop' (S := Int) (G := Unit) (F_impl_erasing_L1 p0 p2 p3 r2) (fun s4 _ => [(0, v0_), (1, .int .i64 p1), (2, v2_), (3, .int .i64 p3), (8, .pointer (some ⟨b1, 0, none⟩)), (10, .int .i64 r2), (11, .int .i64 s4)]) (fun s4 _ => [.rd v0_ p0, .rd v2_ p2, .bx b1 74 [.int .i64 0, .int .i64 0, .slice none 0 0]]) p1 () ⟨rfl, rfl, rfl, rfl, rfl, rfl, rfl, trivial⟩ [2, 1, 0] rfl rfl (fun s4 g5 => ?_) (fun s4 g5 => ?_)
 ·unfold F_impl_erasing_L1
  refine J_seq ?_
  refine J_sr ?_
  refine JM rfl rfl ?_
  refine JM rfl rfl ?_
  refine JL_q wn rfl (ex_len_rd 0 Tryz.underlying34 rfl rfl) ?_
  refine JL_q wn rfl (ex_lss rfl rfl) ?_
  refine JL_nt ?_
  refine J_if rfl (fun h6 => ?_) (fun h6 => ?_)
  ·refine J_skip ?_
   refine N_then ?_
   refine J_seq ?_
   refine J_block ?_
   refine J_sr ?_
   refine JM rfl rfl ?_
   refine JM rfl rfl ?_
   refine JL_bnd fun y7 hy8 => ?_
   refine JL_st wn rfl (st_index 0 Tryz.underlying34 ti_88 rfl rfl rfl hy8) (fun q9 => ?_)
   refine JL_st wn rfl (st_load_pt_o 0 (GRewrite.opens _) ti_88 rfl rfl) (fun v10 => ?_)
   refine JL_st wn rfl (st_alloc zi_88 rfl) (fun b11 => ?_)
   refine JL_sk wn (sk_store_bx' 0 ti_88 rfl rfl (fun w hh => (cv_aggs ⟨(hh.cv 1 rfl), (hh.cv 2 rfl), trivial⟩)) rfl rfl rfl rfl) ?_
   refine JL_nt ?_
   refine J_sr ?_
   refine JM rfl rfl ?_
   refine JA rfl rfl ?_
   refine JL_nt ?_
   refine J_seq ?_
   refine J_block ?_
   refine J_sr ?_
   refine JM rfl rfl ?_
   refine JL_q wn rfl (ex_lss rfl rfl) ?_
   refine JA rfl rfl ?_
   refine JL_nt ?_
   refine J_if rfl (fun h12 => ?_) (fun h12 => ?_)
   ·refine J_region ?_
    refine JM rfl rfl ?_
    refine JL_q wn rfl (ex_fieldAddr fi_88_0 rfl rfl) ?_
    refine JL_q wn rfl (ex_load_bx 0 ti_27 rfl rfl rfl) ?_
    refine JL_bnd fun y13 hy14 => ?_
    refine JL_st wn rfl (st_index 1 Tryz.underlying27 ti_2 rfl rfl rfl hy14) (fun q15 => ?_)
    refine JL_st wn rfl (st_load_pt_o 0 (opens_int _) ti_2 rfl rfl) (fun _ => ?_)
    refine JL_bnd fun r17 hr18 => ?_
    refine JL_call wn rfl Tryz.call84 rfl (Ca_of0 fun w hh => c_slices_Index_Sint64_int64 _ w (fun _ hk => hk.elim) _ _ (hh.rd0 6 rfl) _ _ hr18) (fun _ => ?_)
    refine JA rfl rfl ?_
    refine JL_nil ?_
    refine N_block ?_
    refine N_then ?_
    refine J_seq ?_
    refine J_cut' (S' := Bool) (G' := Unit) (fun s19 _ => [(0, v0_), (1, .int .i64 p1), (2, v2_), (3, .int .i64 p3), (8, .pointer (some ⟨b1, 0, none⟩)), (10, .int .i64 r2), (11, .int .i64 s4), (12, .pointer (some ⟨b11, 0, none⟩)), (13, .int .i64 r17), (56, .bool s19)]) (fun s19 _ => [.rd v0_ p0, .rd v2_ p2, .bx b1 74 [.int .i64 0, .int .i64 0, .slice none 0 0], .rd v10.1 y7.From, .rd v10.2 y7.To, .bx b11 88 [v10.1, v10.2]]) ?_ (fun s19 g20 => ?_)
    ·refine J_draw [] (by kernel_rfl) ?_
     refine JP_take (i := 0) [0, 1, 2, 3, 4, 5, 6, 7] [] rfl (by kernel_rfl) (by kernel_rfl) (by kernel_rfl) rfl rfl wn rfl (ex_move rfl) ?_
     refine JP_take (i := 1) [0, 1, 2, 3, 4, 5, 6, 7] [] rfl (by kernel_rfl) (by kernel_rfl) (by kernel_rfl) rfl rfl wn rfl (ex_geq rfl rfl) ?_
     refine JP_take (i := 2) [0, 1, 2, 3, 4, 5, 6, 7] [] rfl (by kernel_rfl) (by kernel_rfl) (by kernel_rfl) rfl rfl wn rfl (ex_move rfl) ?_
     refine JP_cond (fun h21 => ?_) (fun h21 => ?_)
     ·refine JP_take (i := 3) [0, 1, 2, 3, 4, 5, 6, 7] [] rfl (by kernel_rfl) (by kernel_rfl) (by kernel_rfl) rfl rfl (wants_some rfl rfl rfl h21) rfl (ex_move rfl) ?_
      refine JP_take (i := 4) [0, 1, 2, 3, 4, 5, 6, 7] [] rfl (by kernel_rfl) (by kernel_rfl) (by kernel_rfl) rfl rfl (wants_some rfl rfl rfl h21) rfl (ex_move rfl) ?_
      refine JP_bnd fun z22 hz23 => ?_
      refine JP_sq (i := 5) [] rfl (by kernel_rfl) (by kernel_rfl) (by kernel_rfl) rfl (wants_some rfl rfl rfl h21) rfl (sq_slice 6 Tryz.underlying27 ti_2 rfl rfl rfl rfl hz23) (fun v24 => ?_)
      refine JP_take (i := 6) [0, 1, 2, 3, 4, 5, 6, 7, 8] [] rfl (by kernel_rfl) (by kernel_rfl) (by kernel_rfl) rfl rfl (wants_some rfl rfl rfl h21) rfl (ex_fieldAddr fi_88_0 rfl rfl) ?_
      refine JP_take (i := 7) [0, 1, 2, 3, 4, 5, 6, 7, 8] [] rfl (by kernel_rfl) (by kernel_rfl) (by kernel_rfl) rfl rfl (wants_some rfl rfl rfl h21) rfl (ex_load_bx 2 ti_27 rfl rfl rfl) ?_
      refine JP_go [0, 1, 2, 3, 4, 5, 6, 7, 8] [] rfl rfl rfl (fun w26 h1_27 hp25 => ?_)
      refine JD_bnd fun r28 hr29 => ?_
      refine JD_one (i := 8) (by kernel_rfl) ?_
      refine JO_call rfl (wants_some rfl rfl rfl h21) rfl Tryz.call85 rfl (Ca_of0 fun w hh => c_impl_begins _ w (fun _ hk => hk.elim) _ _ (hh.rd0 0 rfl) _ _ (hh.rd0 3 rfl) _ hr29) (fun _ => ?_)
      refine JD_take (i := 9) hp25 rfl (by kernel_rfl) (by kernel_rfl) (by kernel_rfl) wn rfl (ex_pick_true rfl h21 rfl) ?_
      refine JD_done (by kernel_rfl) ?_
      exact N_meet' () ⟨rfl, rfl, rfl, rfl, rfl, rfl, rfl, rfl, rfl, rfl, trivial⟩ [6, 7, 8, 3, 4, 2] rfl rfl
     ·refine JP_pass (i := 3) rfl (by kernel_rfl) (by kernel_rfl) (by kernel_rfl) rfl rfl h21 rfl ?_
      refine JP_pass (i := 4) rfl (by kernel_rfl) (by kernel_rfl) (by kernel_rfl) rfl rfl h21 rfl ?_
      refine JP_pass (i := 5) rfl (by kernel_rfl) (by kernel_rfl) (by kernel_rfl) rfl rfl h21 rfl ?_
      refine JP_pass (i := 6) rfl (by kernel_rfl) (by kernel_rfl) (by kernel_rfl) rfl rfl h21 rfl ?_
      refine JP_pass (i := 7) rfl (by kernel_rfl) (by kernel_rfl) (by kernel_rfl) rfl rfl h21 rfl ?_
      refine JP_pass (i := 8) rfl (by kernel_rfl) (by kernel_rfl) (by kernel_rfl) rfl rfl h21 rfl ?_
      refine JP_take (i := 9) [0, 1, 2, 3, 4, 5, 6, 7] [] rfl (by kernel_rfl) (by kernel_rfl) (by kernel_rfl) rfl rfl wn rfl (ex_pick_false rfl h21 rfl) ?_
      refine JP_go [] [] rfl rfl rfl (fun _ _ _ => ?_)
      refine JD_done (by kernel_rfl) ?_
      exact N_meet' () ⟨rfl, rfl, rfl, rfl, rfl, rfl, rfl, rfl, rfl, rfl, trivial⟩ [5, 6, 7, 2, 3, 1] rfl rfl
    ·refine N_then ?_
     refine J_if rfl (fun h30 => ?_) (fun h30 => ?_)
     ·refine J_sr ?_
      refine JM rfl rfl ?_
      refine JM rfl rfl ?_
      refine JM rfl rfl ?_
      refine JM rfl rfl ?_
      refine JL_q wn rfl (ex_fieldAddr fi_88_0 rfl rfl) ?_
      refine JL_q wn rfl (ex_load_bx 5 ti_27 rfl rfl rfl) ?_
      refine JL_q wn rfl (ex_len_rd 3 Tryz.underlying27 rfl rfl) ?_
      refine JL_q wn rfl (ex_fieldAddr fi_88_1 rfl rfl) ?_
      refine JL_q wn rfl (ex_load_bx 5 ti_27 rfl rfl rfl) ?_
      refine JL_bnd fun r31 hr32 => ?_
      refine JL_call wn rfl Tryz.call86 rfl (Ca_self (fun _ => rfl) fun w hh => c_impl_replaced _ w (fun _ hk => hk.elim) _ _ (hh.rd0 1 rfl) _ _ _ _ (hh.rd0 4 rfl) _ hr32) (fun x33 => ?_)
      refine JL_q wn rfl (ex_build si_74 rfl (.cons fi_74_0 rfl rfl (.cons fi_74_1 rfl rfl (.cons fi_74_2 rfl rfl .nil))) (fun w hh => ⟨cv_int, cv_int, (hh.cv_ow 0 rfl), trivial⟩)) ?_
      refine JL_sk wn (sk_store_bx' 3 ti_74 rfl rfl (fun w hh => (cv_aggs ⟨cv_int, cv_int, (hh.cv_ow 0 rfl), trivial⟩)) rfl rfl rfl rfl) ?_
      refine JA rfl rfl ?_
      refine JL_nt ?_
      refine J_ret ?_
      refine N_block_ret ?_
      refine N_then_ret ?_
      refine N_round_ret ?_
      refine N_then_ret ?_
      exact N_ret2 rfl (rv_cell 3 rfl rfl ti_74 rfl) (rv_tmp rfl) (fun w hh => ⟨x33, rfl, hh.sel [0] rfl⟩)
     ·refine J_skip ?_
      refine N_block ?_
      refine N_then ?_
      refine J_region ?_
      refine JM rfl rfl ?_
      refine JL_q wn rfl (ex_add rfl rfl) ?_
      refine JA rfl rfl ?_
      refine JL_nil ?_
      exact N_next' () ⟨rfl, rfl, rfl, rfl, rfl, rfl, rfl, trivial⟩ [0, 1, 2] rfl rfl
   ·refine J_sr ?_
    refine JL_q wn rfl (ex_fieldAddr fi_88_0 rfl rfl) ?_
    refine JL_q wn rfl (ex_load_bx 0 ti_27 rfl rfl rfl) ?_
    refine JL_bnd fun y34 hy35 => ?_
    refine JL_st wn rfl (st_index 1 Tryz.underlying27 ti_2 rfl rfl rfl hy35) (fun q36 => ?_)
    refine JL_st wn rfl (st_load_pt_o 0 (opens_int _) ti_2 rfl rfl) (fun _ => ?_)
    refine JM rfl rfl ?_
    refine JL_q wn rfl (ex_neq rfl rfl) ?_
    refine JA rfl rfl ?_
    refine JL_nt ?_
    refine J_if rfl (fun h38 => ?_) (fun h38 => ?_)
    ·refine J_exit ?_
     refine N_block_exit_ne rfl ?_
     refine N_then_exit ?_
     refine N_block_exit ?_
     refine N_then ?_
     refine J_region ?_
     refine JM rfl rfl ?_
     refine JL_q wn rfl (ex_add rfl rfl) ?_
     refine JA rfl rfl ?_
     refine JL_nil ?_
     exact N_next' () ⟨rfl, rfl, rfl, rfl, rfl, rfl, rfl, trivial⟩ [5, 6, 7] rfl rfl
    ·refine J_skip ?_
     refine N_block ?_
     refine N_then ?_
     refine J_seq ?_
     refine J_cut' (S' := Bool) (G' := Unit) (fun s39 _ => [(0, v0_), (1, .int .i64 p1), (2, v2_), (3, .int .i64 p3), (8, .pointer (some ⟨b1, 0, none⟩)), (10, .int .i64 r2), (11, .int .i64 s4), (12, .pointer (some ⟨b11, 0, none⟩)), (13, .int .i64 r2), (56, .bool s39)]) (fun s39 _ => [.rd v0_ p0, .rd v2_ p2, .bx b1 74 [.int .i64 0, .int .i64 0, .slice none 0 0], .rd v10.1 y7.From, .rd v10.2 y7.To, .bx b11 88 [v10.1, v10.2]]) ?_ (fun s39 g40 => ?_)
     ·refine J_draw [] (by kernel_rfl) ?_
      refine JP_take (i := 0) [0, 1, 2, 3, 4, 5, 6, 7] [] rfl (by kernel_rfl) (by kernel_rfl) (by kernel_rfl) rfl rfl wn rfl (ex_move rfl) ?_
      refine JP_take (i := 1) [0, 1, 2, 3, 4, 5, 6, 7] [] rfl (by kernel_rfl) (by kernel_rfl) (by kernel_rfl) rfl rfl wn rfl (ex_geq rfl rfl) ?_
      refine JP_take (i := 2) [0, 1, 2, 3, 4, 5, 6, 7] [] rfl (by kernel_rfl) (by kernel_rfl) (by kernel_rfl) rfl rfl wn rfl (ex_move rfl) ?_
      refine JP_cond (fun h41 => ?_) (fun h41 => ?_)
      ·refine JP_take (i := 3) [0, 1, 2, 3, 4, 5, 6, 7] [] rfl (by kernel_rfl) (by kernel_rfl) (by kernel_rfl) rfl rfl (wants_some rfl rfl rfl h41) rfl (ex_move rfl) ?_
       refine JP_take (i := 4) [0, 1, 2, 3, 4, 5, 6, 7] [] rfl (by kernel_rfl) (by kernel_rfl) (by kernel_rfl) rfl rfl (wants_some rfl rfl rfl h41) rfl (ex_move rfl) ?_
       refine JP_bnd fun z42 hz43 => ?_
       refine JP_sq (i := 5) [] rfl (by kernel_rfl) (by kernel_rfl) (by kernel_rfl) rfl (wants_some rfl rfl rfl h41) rfl (sq_slice 6 Tryz.underlying27 ti_2 rfl rfl rfl rfl hz43) (fun v44 => ?_)
       refine JP_take (i := 6) [0, 1, 2, 3, 4, 5, 6, 7, 8] [] rfl (by kernel_rfl) (by kernel_rfl) (by kernel_rfl) rfl rfl (wants_some rfl rfl rfl h41) rfl (ex_fieldAddr fi_88_0 rfl rfl) ?_
       refine JP_take (i := 7) [0, 1, 2, 3, 4, 5, 6, 7, 8] [] rfl (by kernel_rfl) (by kernel_rfl) (by kernel_rfl) rfl rfl (wants_some rfl rfl rfl h41) rfl (ex_load_bx 2 ti_27 rfl rfl rfl) ?_
       refine JP_go [0, 1, 2, 3, 4, 5, 6, 7, 8] [] rfl rfl rfl (fun w46 h1_47 hp45 => ?_)
       refine JD_bnd fun r48 hr49 => ?_
       refine JD_one (i := 8) (by kernel_rfl) ?_
       refine JO_call rfl (wants_some rfl rfl rfl h41) rfl Tryz.call85 rfl (Ca_of0 fun w hh => c_impl_begins _ w (fun _ hk => hk.elim) _ _ (hh.rd0 0 rfl) _ _ (hh.rd0 3 rfl) _ hr49) (fun _ => ?_)
       refine JD_take (i := 9) hp45 rfl (by kernel_rfl) (by kernel_rfl) (by kernel_rfl) wn rfl (ex_pick_true rfl h41 rfl) ?_
       refine JD_done (by kernel_rfl) ?_
       exact N_meet' () ⟨rfl, rfl, rfl, rfl, rfl, rfl, rfl, rfl, rfl, rfl, trivial⟩ [6, 7, 8, 3, 4, 2] rfl rfl
      ·refine JP_pass (i := 3) rfl (by kernel_rfl) (by kernel_rfl) (by kernel_rfl) rfl rfl h41 rfl ?_
       refine JP_pass (i := 4) rfl (by kernel_rfl) (by kernel_rfl) (by kernel_rfl) rfl rfl h41 rfl ?_
       refine JP_pass (i := 5) rfl (by kernel_rfl) (by kernel_rfl) (by kernel_rfl) rfl rfl h41 rfl ?_
       refine JP_pass (i := 6) rfl (by kernel_rfl) (by kernel_rfl) (by kernel_rfl) rfl rfl h41 rfl ?_
       refine JP_pass (i := 7) rfl (by kernel_rfl) (by kernel_rfl) (by kernel_rfl) rfl rfl h41 rfl ?_
       refine JP_pass (i := 8) rfl (by kernel_rfl) (by kernel_rfl) (by kernel_rfl) rfl rfl h41 rfl ?_
       refine JP_take (i := 9) [0, 1, 2, 3, 4, 5, 6, 7] [] rfl (by kernel_rfl) (by kernel_rfl) (by kernel_rfl) rfl rfl wn rfl (ex_pick_false rfl h41 rfl) ?_
       refine JP_go [] [] rfl rfl rfl (fun _ _ _ => ?_)
       refine JD_done (by kernel_rfl) ?_
       exact N_meet' () ⟨rfl, rfl, rfl, rfl, rfl, rfl, rfl, rfl, rfl, rfl, trivial⟩ [5, 6, 7, 2, 3, 1] rfl rfl
     ·refine N_then ?_
      refine J_if rfl (fun h50 => ?_) (fun h50 => ?_)
      ·refine J_sr ?_
       refine JM rfl rfl ?_
       refine JM rfl rfl ?_
       refine JM rfl rfl ?_
       refine JM rfl rfl ?_
       refine JL_q wn rfl (ex_fieldAddr fi_88_0 rfl rfl) ?_
       refine JL_q wn rfl (ex_load_bx 5 ti_27 rfl rfl rfl) ?_
       refine JL_q wn rfl (ex_len_rd 3 Tryz.underlying27 rfl rfl) ?_
       refine JL_q wn rfl (ex_fieldAddr fi_88_1 rfl rfl) ?_
       refine JL_q wn rfl (ex_load_bx 5 ti_27 rfl rfl rfl) ?_
       refine JL_bnd fun r51 hr52 => ?_
       refine JL_call wn rfl Tryz.call86 rfl (Ca_self (fun _ => rfl) fun w hh => c_impl_replaced _ w (fun _ hk => hk.elim) _ _ (hh.rd0 1 rfl) _ _ _ _ (hh.rd0 4 rfl) _ hr52) (fun x53 => ?_)
       refine JL_q wn rfl (ex_build si_74 rfl (.cons fi_74_0 rfl rfl (.cons fi_74_1 rfl rfl (.cons fi_74_2 rfl rfl .nil))) (fun w hh => ⟨cv_int, cv_int, (hh.cv_ow 0 rfl), trivial⟩)) ?_
       refine JL_sk wn (sk_store_bx' 3 ti_74 rfl rfl (fun w hh => (cv_aggs ⟨cv_int, cv_int, (hh.cv_ow 0 rfl), trivial⟩)) rfl rfl rfl rfl) ?_
       refine JA rfl rfl ?_
       refine JL_nt ?_
       refine J_ret ?_
       refine N_block_ret ?_
       refine N_then_ret ?_
       refine N_round_ret ?_
       refine N_then_ret ?_
       exact N_ret2 rfl (rv_cell 3 rfl rfl ti_74 rfl) (rv_tmp rfl) (fun w hh => ⟨x53, rfl, hh.sel [0] rfl⟩)
      ·refine J_skip ?_
       refine N_block ?_
       refine N_then ?_
       refine J_region ?_
       refine JM rfl rfl ?_
       refine JL_q wn rfl (ex_add rfl rfl) ?_
       refine JA rfl rfl ?_
       refine JL_nil ?_
       exact N_next' () ⟨rfl, rfl, rfl, rfl, rfl, rfl, rfl, trivial⟩ [0, 1, 2] rfl rfl
  ·refine J_exit ?_
   refine N_then_exit ?_
   exact N_break' () ⟨rfl, rfl, rfl, rfl, rfl, rfl, rfl, trivial⟩ [0, 1, 2] rfl rfl
 ·refine N_then ?_
  refine J_seq ?_
  refine J_sr ?_
  refine JM rfl rfl ?_
  refine JA rfl rfl ?_
  refine JL_nt ?_
  refine J_loop' (S := Int) (G := Unit) (F_impl_erasing_L2 p0 p2 p3 r2) (fun s54 _ => [(0, v0_), (2, v2_), (3, .int .i64 p3), (8, .pointer (some ⟨b1, 0, none⟩)), (10, .int .i64 r2), (14, .int .i64 s54)]) (fun s54 _ => [.rd v0_ p0, .rd v2_ p2, .bx b1 74 [.int .i64 0, .int .i64 0, .slice none 0 0]]) p1 () ⟨rfl, rfl, rfl, rfl, rfl, rfl, trivial⟩ [0, 1, 2] rfl rfl (fun s54 g55 => ?_) (fun s54 g55 => ?_)
  ·unfold F_impl_erasing_L2
   refine J_seq ?_
   refine J_sr ?_
   refine JM rfl rfl ?_
   refine JM rfl rfl ?_
   refine JL_q wn rfl (ex_len_rd 0 Tryz.underlying34 rfl rfl) ?_
   refine JL_q wn rfl (ex_lss rfl rfl) ?_
   refine JM rfl rfl ?_
   refine JL_cond (fun h56 => ?_) (fun h56 => ?_)
   ·refine JL_q (wants_some rfl rfl rfl h56) rfl (ex_move rfl) ?_
    refine JL_q (wants_some rfl rfl rfl h56) rfl (ex_gtr rfl rfl) ?_
    refine JL_q wn rfl (ex_pick_true rfl h56 rfl) ?_
    refine JL_nt ?_
    refine J_if rfl (fun h57 => ?_) (fun h57 => ?_)
    ·refine J_skip ?_
     refine N_then ?_
     refine J_seq ?_
     refine J_block ?_
     refine J_sr ?_
     refine JM rfl rfl ?_
     refine JM rfl rfl ?_
     refine JL_bnd fun y58 hy59 => ?_
     refine JL_st wn rfl (st_index 0 Tryz.underlying34 ti_88 rfl rfl rfl hy59) (fun q60 => ?_)
     refine JL_st wn rfl (st_load_pt_o 0 (GRewrite.opens _) ti_88 rfl rfl) (fun v61 => ?_)
     refine JL_st wn rfl (st_alloc zi_88 rfl) (fun b62 => ?_)
     refine JL_sk wn (sk_store_bx' 0 ti_88 rfl rfl (fun w hh => (cv_aggs ⟨(hh.cv 1 rfl), (hh.cv 2 rfl), trivial⟩)) rfl rfl rfl rfl) ?_
     refine JL_nt ?_
     refine J_seq ?_
     refine J_cut' (S' := Bool) (G' := Unit) (fun s63 _ => [(0, v0_), (2, v2_), (3, .int .i64 p3), (8, .pointer (some ⟨b1, 0, none⟩)), (10, .int .i64 r2), (14, .int .i64 s54), (15, .pointer (some ⟨b62, 0, none⟩)), (100, .bool s63)]) (fun s63 _ => [.rd v0_ p0, .rd v2_ p2, .bx b1 74 [.int .i64 0, .int .i64 0, .slice none 0 0], .rd v61.1 y58.From, .rd v61.2 y58.To, .bx b62 88 [v61.1, v61.2]]) ?_ (fun s63 g64 => ?_)
     ·refine J_draw [] (by kernel_rfl) ?_
      refine JP_take (i := 0) [0, 1, 2, 3, 4, 5, 6] [] rfl (by kernel_rfl) (by kernel_rfl) (by kernel_rfl) rfl rfl wn rfl (ex_fieldAddr fi_88_0 rfl rfl) ?_
      refine JP_take (i := 1) [0, 1, 2, 3, 4, 5, 6] [] rfl (by kernel_rfl) (by kernel_rfl) (by kernel_rfl) rfl rfl wn rfl (ex_load_bx 0 ti_27 rfl rfl rfl) ?_
      refine JP_bnd fun y65 hy66 => ?_
      refine JP_sq (i := 2) [] rfl (by kernel_rfl) (by kernel_rfl) (by kernel_rfl) rfl wn rfl (sq_index 1 Tryz.underlying27 ti_2 rfl rfl rfl hy66) (fun q67 => ?_)
      refine JP_sq (i := 3) [] rfl (by kernel_rfl) (by kernel_rfl) (by kernel_rfl) rfl wn rfl (sq_load_pt_o 0 (opens_int _) ti_2 rfl rfl) (fun _ => ?_)
      refine JP_take (i := 4) [0, 1, 2, 3, 4, 5, 6, 7] [] rfl (by kernel_rfl) (by kernel_rfl) (by kernel_rfl) rfl rfl wn rfl (ex_move rfl) ?_
      refine JP_take (i := 5) [0, 1, 2, 3, 4, 5, 6, 7] [] rfl (by kernel_rfl) (by kernel_rfl) (by kernel_rfl) rfl rfl wn rfl (ex_eql rfl rfl) ?_
      refine JP_take (i := 6) [0, 1, 2, 3, 4, 5, 6, 7] [] rfl (by kernel_rfl) (by kernel_rfl) (by kernel_rfl) rfl rfl wn rfl (ex_move rfl) ?_
      refine JP_cond (fun h69 => ?_) (fun h69 => ?_)
      ·refine JP_take (i := 7) [0, 1, 2, 3, 4, 5, 6, 7] [] rfl (by kernel_rfl) (by kernel_rfl) (by kernel_rfl) rfl rfl (wants_some rfl rfl rfl h69) rfl (ex_fieldAddr fi_88_0 rfl rfl) ?_
       refine JP_take (i := 8) [0, 1, 2, 3, 4, 5, 6, 7] [] rfl (by kernel_rfl) (by kernel_rfl) (by kernel_rfl) rfl rfl (wants_some rfl rfl rfl h69) rfl (ex_load_bx 1 ti_27 rfl rfl rfl) ?_
       refine JP_bnd fun y70 hy71 => ?_
       refine JP_sq (i := 9) [] rfl (by kernel_rfl) (by kernel_rfl) (by kernel_rfl) rfl (wants_some rfl rfl rfl h69) rfl (sq_index 2 Tryz.underlying27 ti_2 rfl rfl rfl hy71) (fun q72 => ?_)
       refine JP_sq (i := 10) [] rfl (by kernel_rfl) (by kernel_rfl) (by kernel_rfl) rfl (wants_some rfl rfl rfl h69) rfl (sq_load_pt_o 0 (opens_int _) ti_2 rfl rfl) (fun _ => ?_)
       refine JP_take (i := 11) [0, 1, 2, 3, 4, 5, 6, 7, 8] [] rfl (by kernel_rfl) (by kernel_rfl) (by kernel_rfl) rfl rfl (wants_some rfl rfl rfl h69) rfl (ex_move rfl) ?_
       refine JP_take (i := 12) [0, 1, 2, 3, 4, 5, 6, 7, 8] [] rfl (by kernel_rfl) (by kernel_rfl) (by kernel_rfl) rfl rfl (wants_some rfl rfl rfl h69) rfl (ex_move rfl) ?_
       refine JP_take (i := 13) [0, 1, 2, 3, 4, 5, 6, 7, 8] [] rfl (by kernel_rfl) (by kernel_rfl) (by kernel_rfl) rfl rfl (wants_some rfl rfl rfl h69) rfl (ex_sub rfl rfl) ?_
       refine JP_bnd fun y74 hy75 => ?_
       refine JP_sq (i := 14) [] rfl (by kernel_rfl) (by kernel_rfl) (by kernel_rfl) rfl (wants_some rfl rfl rfl h69) rfl (sq_index 7 Tryz.underlying27 ti_2 rfl rfl rfl hy75) (fun q76 => ?_)
       refine JP_sq (i := 15) [] rfl (by kernel_rfl) (by kernel_rfl) (by kernel_rfl) rfl (wants_some rfl rfl rfl h69) rfl (sq_load_pt_o 0 (opens_int _) ti_2 rfl rfl) (fun _ => ?_)
       refine JP_take (i := 16) [0, 1, 2, 3, 4, 5, 6, 7, 8, 9] [] rfl (by kernel_rfl) (by kernel_rfl) (by kernel_rfl) rfl rfl (wants_some rfl rfl rfl h69) rfl (ex_eql rfl rfl) ?_
       refine JP_take (i := 17) [0, 1, 2, 3, 4, 5, 6, 7, 8, 9] [] rfl (by kernel_rfl) (by kernel_rfl) (by kernel_rfl) rfl rfl wn rfl (ex_pick_true rfl h69 rfl) ?_
       refine JP_go [] [] rfl rfl rfl (fun _ _ _ => ?_)
       refine JD_done (by kernel_rfl) ?_
       exact N_meet' () ⟨rfl, rfl, rfl, rfl, rfl, rfl, rfl, rfl, trivial⟩ [7, 8, 9, 4, 5, 3] rfl rfl
      ·refine JP_pass (i := 7) rfl (by kernel_rfl) (by kernel_rfl) (by kernel_rfl) rfl rfl h69 rfl ?_
       refine JP_pass (i := 8) rfl (by kernel_rfl) (by kernel_rfl) (by kernel_rfl) rfl rfl h69 rfl ?_
       refine JP_pass (i := 9) rfl (by kernel_rfl) (by kernel_rfl) (by kernel_rfl) rfl rfl h69 rfl ?_
       refine JP_pass (i := 10) rfl (by kernel_rfl) (by kernel_rfl) (by kernel_rfl) rfl rfl h69 rfl ?_
       refine JP_pass (i := 11) rfl (by kernel_rfl) (by kernel_rfl) (by kernel_rfl) rfl rfl h69 rfl ?_
       refine JP_pass (i := 12) rfl (by kernel_rfl) (by kernel_rfl) (by kernel_rfl) rfl rfl h69 rfl ?_
       refine JP_pass (i := 13) rfl (by kernel_rfl) (by kernel_rfl) (by kernel_rfl) rfl rfl h69 rfl ?_
       refine JP_pass (i := 14) rfl (by kernel_rfl) (by kernel_rfl) (by kernel_rfl) rfl rfl h69 rfl ?_
       refine JP_pass (i := 15) rfl (by kernel_rfl) (by kernel_rfl) (by kernel_rfl) rfl rfl h69 rfl ?_
       refine JP_pass (i := 16) rfl (by kernel_rfl) (by kernel_rfl) (by kernel_rfl) rfl rfl h69 rfl ?_
       refine JP_take (i := 17) [0, 1, 2, 3, 4, 5, 6, 7] [] rfl (by kernel_rfl) (by kernel_rfl) (by kernel_rfl) rfl rfl wn rfl (ex_pick_false rfl h69 rfl) ?_
       refine JP_go [] [] rfl rfl rfl (fun _ _ _ => ?_)
       refine JD_done (by kernel_rfl) ?_
       exact N_meet' () ⟨rfl, rfl, rfl, rfl, rfl, rfl, rfl, rfl, trivial⟩ [5, 6, 7, 2, 3, 1] rfl rfl
     ·refine N_then ?_
      refine J_if rfl (fun h78 => ?_) (fun h78 => ?_)
      ·refine J_sr ?_
       refine JM rfl rfl ?_
       refine JM rfl rfl ?_
       refine JL_q wn rfl (ex_sub rfl rfl) ?_
       refine JM rfl rfl ?_
       refine JM rfl rfl ?_
       refine JL_q wn rfl (ex_sub rfl rfl) ?_
       refine JL_q wn rfl (ex_fieldAddr fi_88_1 rfl rfl) ?_
       refine JL_q wn rfl (ex_load_bx 5 ti_27 rfl rfl rfl) ?_
       refine JL_bnd fun r79 hr80 => ?_
       refine JL_call wn rfl Tryz.call86 rfl (Ca_self (fun _ => rfl) fun w hh => c_impl_replaced _ w (fun _ hk => hk.elim) _ _ (hh.rd0 1 rfl) _ _ _ _ (hh.rd0 4 rfl) _ hr80) (fun x81 => ?_)
       refine JL_q wn rfl (ex_build si_74 rfl (.cons fi_74_0 rfl rfl (.cons fi_74_1 rfl rfl (.cons fi_74_2 rfl rfl .nil))) (fun w hh => ⟨cv_int, cv_int, (hh.cv_ow 0 rfl), trivial⟩)) ?_
       refine JL_sk wn (sk_store_bx' 3 ti_74 rfl rfl (fun w hh => (cv_aggs ⟨cv_int, cv_int, (hh.cv_ow 0 rfl), trivial⟩)) rfl rfl rfl rfl) ?_
       refine JA rfl rfl ?_
       refine JL_nt ?_
       refine J_ret ?_
       refine N_block_ret ?_
       refine N_then_ret ?_
       refine N_round_ret ?_
       refine N_then_ret ?_
       exact N_ret2 rfl (rv_cell 3 rfl rfl ti_74 rfl) (rv_tmp rfl) (fun w hh => ⟨x81, rfl, hh.sel [0] rfl⟩)
      ·refine J_skip ?_
       refine N_block ?_
       refine N_then ?_
       refine J_region ?_
       refine JM rfl rfl ?_
       refine JL_q wn rfl (ex_add rfl rfl) ?_
       refine JA rfl rfl ?_
       refine JL_nil ?_
       exact N_next' () ⟨rfl, rfl, rfl, rfl, rfl, rfl, trivial⟩ [0, 1, 2] rfl rfl
    ·refine J_exit ?_
     refine N_then_exit ?_
     exact N_break' () ⟨rfl, rfl, rfl, rfl, rfl, rfl, trivial⟩ [0, 1, 2] rfl rfl
   ·refine JL_passed rfl rfl rfl h56 ?_
    refine JL_passed rfl rfl rfl h56 ?_
    refine JL_q wn rfl (ex_pick_false rfl h56 rfl) ?_
    refine JL_nt ?_
    refine J_if_false rfl rfl ?_
    refine J_exit ?_
    refine N_then_exit ?_
    exact N_break' () ⟨rfl, rfl, rfl, rfl, rfl, rfl, trivial⟩ [0, 1, 2] rfl rfl
  ·refine N_then ?_
   refine J_sr ?_
   refine JL_q wn rfl (ex_build si_74 rfl .nil (fun w hh => trivial)) ?_
   refine JL_sk wn (sk_store_bx' 2 ti_74 rfl rfl (fun w hh => (cv_aggs ⟨cv_int, cv_int, cv_slice, trivial⟩)) rfl rfl rfl rfl) ?_
   refine JA rfl rfl ?_
   refine JL_nt ?_
   refine J_ret ?_
   refine N_ctx (fun w hh => SH.ow_nil (α := Int) 2 hh) ?_
   exact N_ret2 rfl (rv_cell 3 rfl rfl ti_74 rfl) (rv_tmp rfl) (fun w hh => ⟨(.slice none 0 0 : Value), rfl, hh.sel [0] rfl⟩)
set_option maxHeartbeats 40000000 in
theorem c_impl_shortDerivation (A : Nat → Prop) (w : World) (hA : ∀ k, A k → k < w.heap.size) (v0_ : Value) (p0 : (List (List Int))) (hp0 : Rd A w v0_ p0) (r : (List (List Int)) × Int) (hr : F_impl_shortDerivation p0 = some r) :
  Con Tryz.prog 38 [v0_] A w (fun x_ : Value => .tuple #[x_, .int .i64 r.2]) (fun x_ => [.pr (Sub v0_ p0 x_ r.1)]) := by
 refine Con_of (v := fun (r : (List (List Int)) × Int) (x_ : Value) => .tuple #[x_, .int .i64 r.2]) (fs := fun r x_ => [.pr (Sub v0_ p0 x_ r.1)]) Tryz.func38 rfl Tryz.ntmps38 rfl ((SH.start hA).start_rd rfl hp0) rfl ?_ hr
 unfold F_impl_shortDerivation
 refine J_sr ?_
 refine JA rfl rfl ?_
 refine JA rfl rfl ?_
 refine JL_nt ?_
 refine J_seq ?_
 refine J_sr ?_
 refine JM rfl rfl ?_
 refine JL_q wn rfl (ex_len_rd 0 Tryz.underlying39 rfl rfl) ?_
 refine JL_q wn rfl (ex_gtr rfl rfl) ?_
 refine JL_nt ?_
 refine J_if rfl (fun h1 => ?_) (fun h1 => ?_)
 ·refine J_sr ?_
  refine JA rfl rfl ?_
  refine JA rfl rfl ?_
  refine JL_nt ?_
  refine J_ret ?_
  refine N_then_ret ?_
  refine N_ctx (fun w hh => hh.cons_pr (p := Sub v0_ p0 (.slice none 0 0) ([] : (List (List Int)))) Sub.nil) ?_
  exact N_ret2 rfl (rv_tmp rfl) (rv_tmp rfl) (fun w hh => ⟨(.slice none 0 0 : Value), rfl, hh.sel [0] rfl⟩)
 ·refine J_skip ?_
  refine N_then ?_
  refine J_sr ?_
  refine JM rfl rfl ?_
  refine JA rfl rfl ?_
  refine JA rfl rfl ?_
  refine JL_nt ?_
  refine J_ret ?_
  refine N_ctx (fun w hh => hh.cons_pr (p := Sub v0_ p0 v0_ p0) Sub.refl) ?_
  exact N_ret2 rfl (rv_tmp rfl) (rv_tmp rfl) (fun w hh => ⟨v0_, rfl, hh.sel [0] rfl⟩)
set_option maxHeartbeats 40000000 in
theorem c_impl_HaltDerivation (A : Nat → Prop) (w : World) (hA : ∀ k, A k → k < w.heap.size) (v0_ : Value) (p0 : GMachine) (hp0 : Rd A w v0_ p0) (v1_ : Value) (p1 : GConfig) (hp1 : Rd A w v1_ p1) (p2 : Int) (r : (List (List Int)) × Int) (hr : F_impl_HaltDerivation p0 p1 p2 = some r) :
  Con Tryz.prog 9 [v0_, v1_, .int .i64 p2] A w (fun x_ : Value × List Nat => .tuple #[x_.1, .int .i64 r.2]) (fun x_ => [.tkn x_.1 r.1 x_.2]) := by
 obtain ⟨v0_0, rfl, hp0_0⟩ := GMachine.open hp0
 obtain ⟨v1_0, v1_1, rfl, hp1_0, hp1_1⟩ := GConfig.open hp1
 refine Con_of (v := fun (r : (List (List Int)) × Int) (x_ : Value × List Nat) => .tuple #[x_.1, .int .i64 r.2]) (fs := fun r x_ => [.tkn x_.1 r.1 x_.2]) Tryz.func9 rfl Tryz.ntmps9 rfl ((((SH.start hA).start_rd rfl hp0_0).start_rd rfl hp1_0).start_rd rfl hp1_1) rfl ?_ hr
 unfold F_impl_HaltDerivation
 refine J_sr ?_
 refine JL_st wn rfl (st_box' rfl (fun w hh => (cv_aggs ⟨cv_int, cv_int, (hh.cv 2 rfl), trivial⟩))) (fun b1 => ?_)
 refine JL_st wn rfl (st_box' rfl (fun w hh => (cv_aggs ⟨cv_int, (hh.cv 2 rfl), (hh.cv 1 rfl), trivial⟩))) (fun b2 => ?_)
 refine JA rfl rfl ?_
 refine JA rfl rfl ?_
 refine JL_nt ?_
 refine J_seq ?_
 refine J_sr ?_
 refine JL_q wn rfl (ex_load_bx_agg 1 ti_26 rfl rfl rfl rfl) ?_
 refine JL_q wn rfl (ex_load_bx_agg 0 ti_29 rfl rfl rfl rfl) ?_
 refine JM rfl rfl ?_
 refine JL_bnd fun r3 hr4 => ?_
 refine JL_call wn rfl Tryz.call31 rfl (Ca_of0 fun w hh => c_impl_runCode _ w (fun _ hk => hk.elim) _ _ (GMachine.rdmk (Rd.mk_int _ _ _) (Rd.mk_int _ _ _) (hh.rd0 4 rfl)) _ _ (GConfig.rdmk (Rd.mk_int _ _ _) (hh.rd0 3 rfl) (hh.rd0 2 rfl)) _ _ hr4) (fun _ => ?_)
 refine JA rfl rfl ?_
 refine JL_nt ?_
 refine J_sr ?_
 refine JM rfl rfl ?_
 refine JL_q wn rfl (ex_neq rfl rfl) ?_
 refine JL_nt ?_
 refine J_if rfl (fun h5 => ?_) (fun h5 => ?_)
 ·refine J_sr ?_
  refine JM rfl rfl ?_
  refine JA rfl rfl ?_
  refine JA rfl rfl ?_
  refine JL_nt ?_
  refine J_ret ?_
  refine N_then_ret ?_
  refine N_ctx (fun w hh => SH.od_nil (α := (List Int)) 27 hh) ?_
  refine N_ctx (fun w hh => hh.tok 0 rfl) ?_
  exact N_ret2 rfl (rv_tmp rfl) (rv_tmp rfl) (fun w hh => ⟨((.slice none 0 0 : Value), ((.slice none 0 0 : Value).ownBlock.toList ++ [])), rfl, hh.sel [0] rfl⟩)
 ·refine J_skip ?_
  refine N_then ?_
  refine J_sr ?_
  refine JL_q wn rfl (ex_load_bx_agg 1 ti_26 rfl rfl rfl rfl) ?_
  refine JL_bnd fun r6 hr7 => ?_
  refine JL_call wn rfl Tryz.call29 rfl (Ca_self (fun _ => rfl) fun w hh => c_impl_haltRewrites _ w (fun _ hk => hk.elim) _ _ (GMachine.rdmk (Rd.mk_int _ _ _) (Rd.mk_int _ _ _) (hh.rd0 4 rfl)) _ hr7) (fun x8 => ?_)
  obtain ⟨x8_0, x8_1⟩ := x8
  refine JM rfl rfl ?_
  refine JL_q wn rfl (ex_extract rfl rfl) ?_
  refine JL_q wn rfl (ex_extract rfl rfl) ?_
  refine JL_q wn rfl (ex_extract rfl rfl) ?_
  refine JA rfl rfl ?_
  refine JA rfl rfl ?_
  refine JA rfl rfl ?_
  refine JL_nt ?_
  refine J_seq ?_
  refine J_sr ?_
  refine JM rfl rfl ?_
  refine JL_q wn rfl (ex_neq rfl rfl) ?_
  refine JL_nt ?_
  refine J_if rfl (fun h9 => ?_) (fun h9 => ?_)
  ·refine J_sr ?_
   refine JM rfl rfl ?_
   refine JA rfl rfl ?_
   refine JA rfl rfl ?_
   refine JL_nt ?_
   refine J_ret ?_
   refine N_then_ret ?_
   refine N_ctx (fun w hh => SH.od_nil (α := (List Int)) 27 hh) ?_
   refine N_ctx (fun w hh => hh.tok 0 rfl) ?_
   exact N_ret2 rfl (rv_tmp rfl) (rv_tmp rfl) (fun w hh => ⟨((.slice none 0 0 : Value), ((.slice none 0 0 : Value).ownBlock.toList ++ [])), rfl, hh.sel [0] rfl⟩)
  ·refine J_skip ?_
   refine N_then ?_
   refine J_sr ?_
   refine JL_q wn rfl (ex_load_bx_agg 2 ti_26 rfl rfl rfl rfl) ?_
   refine JL_q wn rfl (ex_load_bx_agg 1 ti_29 rfl rfl rfl rfl) ?_
   refine JL_bnd fun r10 hr11 => ?_
   refine JL_call wn rfl Tryz.call30 rfl (Ca_self (fun _ => rfl) fun w hh => c_impl_haltWords _ w (fun _ hk => hk.elim) _ _ (GMachine.rdmk (Rd.mk_int _ _ _) (Rd.mk_int _ _ _) (hh.rd0 5 rfl)) _ _ (GConfig.rdmk (Rd.mk_int _ _ _) (hh.rd0 4 rfl) (hh.rd0 3 rfl)) _ hr11) (fun x12 => ?_)
   obtain ⟨x12_0, x12_1, x12_2⟩ := x12
   refine JL_ctx (fun w hh => hh.tkn_rd 0 rfl) ?_
   refine JM rfl rfl ?_
   refine JL_q wn rfl (ex_extract rfl rfl) ?_
   refine JL_q wn rfl (ex_extract rfl rfl) ?_
   refine JL_q wn rfl (ex_extract rfl rfl) ?_
   refine JA rfl rfl ?_
   refine JA rfl rfl ?_
   refine JA rfl rfl ?_
   refine JL_nt ?_
   refine J_seq ?_
   refine J_sr ?_
   refine JM rfl rfl ?_
   refine JL_q wn rfl (ex_neq rfl rfl) ?_
   refine JL_nt ?_
   refine J_if rfl (fun h13 => ?_) (fun h13 => ?_)
   ·refine J_sr ?_
    refine JM rfl rfl ?_
    refine JA rfl rfl ?_
    refine JA rfl rfl ?_
    refine JL_nt ?_
    refine J_ret ?_
    refine N_then_ret ?_
    refine N_ctx (fun w hh => SH.od_nil (α := (List Int)) 27 hh) ?_
    refine N_ctx (fun w hh => hh.tok 0 rfl) ?_
    exact N_ret2 rfl (rv_tmp rfl) (rv_tmp rfl) (fun w hh => ⟨((.slice none 0 0 : Value), ((.slice none 0 0 : Value).ownBlock.toList ++ [])), rfl, hh.sel [0] rfl⟩)
   ·refine J_skip ?_
    refine N_then ?_
    refine J_sr ?_
    refine JL_q wn rfl (ex_load_bx_agg 5 ti_26 rfl rfl rfl rfl) ?_
    refine JL_bnd fun r14 hr15 => ?_
    refine JL_call wn rfl Tryz.call32 rfl (Ca_of0 fun w hh => c_impl_eraserOf _ w (fun _ hk => hk.elim) _ _ (GMachine.rdmk (Rd.mk_int _ _ _) (Rd.mk_int _ _ _) (hh.rd0 8 rfl)) _ hr15) (fun _ => ?_)
    refine JM rfl rfl ?_
    refine JL_q wn rfl (ex_extract rfl rfl) ?_
    refine JL_q wn rfl (ex_extract rfl rfl) ?_
    refine JL_q wn rfl (ex_extract rfl rfl) ?_
    refine JL_st wn rfl (st_alloc zi_70 rfl) (fun b16 => ?_)
    refine JL_sk wn (sk_store_bx' 0 ti_70 rfl rfl (fun w hh => (cv_aggs ⟨cv_int, cv_int, trivial⟩)) rfl rfl rfl rfl) ?_
    refine JA rfl rfl ?_
    refine JA rfl rfl ?_
    refine JL_nt ?_
    refine J_sr ?_
    refine JL_st wn rfl (st_buildSlice_od (vs := []) (B := ([] : List Nat)) ([] : List (List Int)) [] Tryz.underlying39 ti_27 zi_27 rfl rfl rfl rfl rfl (fun w hh => dwv_nil)) (fun b17 => ?_)
    refine JL_st wn rfl (st_alloc zi_39 rfl) (fun b18 => ?_)
    refine JL_sk wn (sk_store_bx' 0 ti_39 rfl rfl (fun w hh => (hh.cv_od 1 rfl)) rfl rfl rfl rfl) ?_
    refine JL_nt ?_
    refine J_sr ?_
    refine JL_q wn rfl (ex_makeFunc rfl) ?_
    refine JA rfl rfl ?_
    refine JL_nt ?_
    refine J_seq ?_
    refine J_draw [0, 1, 3, 4, 5, 6, 7, 8, 9, 10, 11] (by kernel_rfl) ?_
    refine JP_take (i := 0) [2] [0, 1, 3, 4, 5, 6, 7, 8, 9, 10, 11] rfl (by kernel_rfl) (by kernel_rfl) (by kernel_rfl) rfl rfl wn rfl (ex_load_bx_agg 0 ti_70 rfl rfl rfl rfl) ?_
    refine JP_take (i := 1) [2] [0, 1, 3, 4, 5, 6, 7, 8, 9, 10, 11] rfl (by kernel_rfl) (by kernel_rfl) (by kernel_rfl) rfl rfl wn rfl (ex_move rfl) ?_
    refine JP_take (i := 2) [2] [0, 1, 3, 4, 5, 6, 7, 8, 9, 10, 11] rfl (by kernel_rfl) (by kernel_rfl) (by kernel_rfl) rfl rfl wn rfl (ex_move rfl) ?_
    refine JP_take (i := 4) [2] [0, 1, 3, 4, 5, 6, 7, 8, 9, 10, 11] rfl (by kernel_rfl) (by kernel_rfl) (by kernel_rfl) rfl rfl wn rfl (ex_move rfl) ?_
    refine JP_take (i := 5) [2] [0, 1, 3, 4, 5, 6, 7, 8, 9, 10, 11] rfl (by kernel_rfl) (by kernel_rfl) (by kernel_rfl) rfl rfl wn rfl (ex_move rfl) ?_
    refine JP_take (i := 6) [2] [0, 1, 3, 4, 5, 6, 7, 8, 9, 10, 11] rfl (by kernel_rfl) (by kernel_rfl) (by kernel_rfl) rfl rfl wn rfl (ex_move rfl) ?_
    refine JP_go [2] [0, 1, 3, 4, 5, 6, 7, 8, 9, 10, 11] rfl rfl rfl (fun w20 h1_21 hp19 => ?_)
    refine JD_bnd fun z22 hz23 => ?_
    refine JD_one (i := 3) (by kernel_rfl) ?_
    refine JO_ctx (fun w hh => hh.tok 6 rfl) (tok_owns (i := 6) rfl) ?_
    refine JO_st rfl wn rfl (st_slice 7 Tryz.underlying34 ti_88 rfl rfl rfl rfl hz23) (fun _ hk => nomatch hk) (fun v24 => ?_)
    refine JD_one (i := 7) (by kernel_rfl) ?_
    refine JO_inline h1_21 [0, 1, 3, 4, 5, 6, 7, 8, 9, 10, 11] [2] rfl rfl rfl rfl wn rfl Tryz.call34 rfl Tryz.func34 rfl Tryz.ntmps34 rfl rfl (fun C26 K_ hK25 => ?_)
    refine J_sr ?_
    refine JL_st wn rfl (st_box' rfl (fun w hh => (cv_aggs ⟨cv_int, cv_int, trivial⟩))) (fun b27 => ?_)
    refine JA rfl rfl ?_
    refine JA rfl rfl ?_
    refine JA rfl rfl ?_
    refine JA rfl rfl ?_
    refine JL_nt ?_
    refine J_sr ?_
    refine JA rfl rfl ?_
    refine JL_nt ?_
    refine J_loop' (S := (List Int) × (List (List Int)) × Int) (G := Value × List Nat × Value × List Nat) (F_impl_HaltDerivation_L1 p2 r6 r14 z22) (fun s28 g29 => [(1, v24), (2, g29.1), (3, .int .i64 p2), (4, .func (.func 33) #[] #[.pointer (some ⟨b18, 0, none⟩)]), (5, .pointer (some ⟨b27, 0, none⟩)), (14, .int .i64 s28.2.2)]) (fun s28 g29 => [.fz w20 C26, .rd v24 z22, .rd g29.1 s28.1, .tkn g29.1 s28.1 g29.2.1, .od 27 g29.2.2.1 s28.2.1 g29.2.2.2, .bx b18 39 [g29.2.2.1], .bx b27 70 [.int .i64 r14.1.state, .int .i64 r14.1.border], .rd x8_0 r6.1, .tkn x8_0 r6.1 ((x8_0 : Value).ownBlock.toList ++ x8_1), .bx b16 70 [.int .i64 r14.1.state, .int .i64 r14.1.border]]) (r10.1, ([] : List (List Int)), 0) (x12_0, x12_1, (.slice (some ⟨b17, 0, none⟩) 0 0), ([] : List Nat)) ⟨rfl, rfl, rfl, rfl, rfl, rfl, trivial⟩ [1, 2, 7, 8, 5, 4, 0, 10, 3, 6] rfl rfl (fun s28 g29 => ?_) (fun s28 g29 => ?_)
    ·obtain ⟨g29_0, g29_1, g29_2, g29_3⟩ := g29
     unfold F_impl_HaltDerivation_L1
     refine J_seq ?_
     refine J_block ?_
     refine J_sr ?_
     refine JL_q wn rfl (ex_load_bx_agg 6 ti_70 rfl rfl rfl rfl) ?_
     refine JM rfl rfl ?_
     refine JM rfl rfl ?_
     refine JL_bnd fun r30 hr31 => ?_
     refine JL_call wn rfl Tryz.call78 rfl (Ca_self (fun _ => rfl) fun w hh => c_impl_alphabet_onlyMove _ w (fun _ hk => hk.elim) _ _ (Galphabet.rdmk (Rd.mk_int _ _ _) (Rd.mk_int _ _ _)) _ _ (hh.rd0 1 rfl) _ _ (hh.rd0 2 rfl) _ hr31) (fun x32 => ?_)
     refine JM rfl rfl ?_
     refine JL_q wn rfl (ex_extract rfl rfl) ?_
     refine JL_q wn rfl (ex_extract rfl rfl) ?_
     refine JL_st wn rfl (st_alloc zi_74 rfl) (fun b33 => ?_)
     refine JL_sk wn (sk_store_bx' 0 ti_74 rfl rfl (fun w hh => (cv_aggs ⟨cv_int, cv_int, (hh.cv_ow 1 rfl), trivial⟩)) rfl rfl rfl rfl) ?_
     refine JA rfl rfl ?_
     refine JL_nt ?_
     refine J_seq ?_
     refine J_cut' (S' := Unit) (G' := Unit) (fun _ _ => [(1, v24), (3, .int .i64 p2), (4, .func (.func 33) #[] #[.pointer (some ⟨b18, 0, none⟩)]), (5, .pointer (some ⟨b27, 0, none⟩)), (14, .int .i64 s28.2.2), (15, .pointer (some ⟨b33, 0, none⟩))]) (fun _ _ => [.fz w20 C26, .rd v24 z22, .od 27 g29_2 s28.2.1 g29_3, .bx b18 39 [g29_2], .bx b27 70 [.int .i64 r14.1.state, .int .i64 r14.1.border], .ow 2 x32 r30.1.word, .bx b33 74 [.int .i64 r30.1.rule, .int .i64 r30.1.at_, x32], .rd x8_0 r6.1, .tkn x8_0 r6.1 ((x8_0 : Value).ownBlock.toList ++ x8_1), .bx b16 70 [.int .i64 r14.1.state, .int .i64 r14.1.border]]) ?_ (fun s34 g35 => ?_)
     ·refine J_sr ?_
      refine JM rfl rfl ?_
      refine JL_q wn rfl (ex_not rfl) ?_
      refine JM rfl rfl ?_
      refine JL_cond (fun h36 => ?_) (fun h36 => ?_)
      ·refine JL_passed rfl rfl rfl h36 ?_
       refine JL_passed rfl rfl rfl h36 ?_
       refine JL_passed rfl rfl rfl h36 ?_
       refine JL_q wn rfl (ex_pick_true rfl h36 rfl) ?_
       refine JL_nt ?_
       refine J_if_true rfl rfl ?_
       refine J_sr ?_
       refine JM rfl rfl ?_
       refine JM rfl rfl ?_
       refine JM rfl rfl ?_
       refine JL_q wn rfl (ex_not rfl) ?_
       refine JA rfl rfl ?_
       refine JA rfl rfl ?_
       refine JA rfl rfl ?_
       refine JA rfl rfl ?_
       refine JL_nt ?_
       refine J_ret ?_
       refine N_mid_ret ?_
       refine N_then_ret ?_
       refine N_block_ret ?_
       refine N_then_ret ?_
       refine N_round_reti ?_
       refine N_inlD4 hK25 rfl (rv_tmp rfl) (rv_tmp rfl) (rv_tmp rfl) (rv_tmp rfl) 2 [11] rfl rfl ?_
       refine JD_take (i := 8) hp19 rfl (by kernel_rfl) (by kernel_rfl) (by kernel_rfl) wn rfl (ex_move rfl) ?_
       refine JD_take (i := 9) hp19 rfl (by kernel_rfl) (by kernel_rfl) (by kernel_rfl) wn rfl (ex_extract rfl rfl) ?_
       refine JD_take (i := 10) hp19 rfl (by kernel_rfl) (by kernel_rfl) (by kernel_rfl) wn rfl (ex_extract rfl rfl) ?_
       refine JD_take (i := 11) hp19 rfl (by kernel_rfl) (by kernel_rfl) (by kernel_rfl) wn rfl (ex_extract rfl rfl) ?_
       refine JD_take (i := 12) hp19 rfl (by kernel_rfl) (by kernel_rfl) (by kernel_rfl) wn rfl (ex_extract rfl rfl) ?_
       refine JD_take (i := 13) hp19 rfl (by kernel_rfl) (by kernel_rfl) (by kernel_rfl) wn rfl (ex_assign rfl) ?_
       refine JD_take (i := 14) hp19 rfl (by kernel_rfl) (by kernel_rfl) (by kernel_rfl) wn rfl (ex_assign rfl) ?_
       refine JD_take (i := 15) hp19 rfl (by kernel_rfl) (by kernel_rfl) (by kernel_rfl) wn rfl (ex_assign rfl) ?_
       refine JD_take (i := 16) hp19 rfl (by kernel_rfl) (by kernel_rfl) (by kernel_rfl) wn rfl (ex_assign rfl) ?_
       refine JD_done (by kernel_rfl) ?_
       refine N_then ?_
       refine J_seq ?_
       refine J_sr ?_
       refine JM rfl rfl ?_
       refine JL_q wn rfl (ex_neq rfl rfl) ?_
       refine JL_nt ?_
       refine J_if_false rfl (by decide) ?_
       refine J_skip ?_
       refine N_then ?_
       refine J_sr ?_
       refine JL_q wn rfl (ex_load_bx_agg 11 ti_70 rfl rfl rfl rfl) ?_
       refine JM rfl rfl ?_
       refine JL_bnd fun r37 hr38 => ?_
       refine JL_call wn rfl Tryz.call35 rfl (Ca_self (fun _ => rfl) fun w hh => c_impl_alphabet_shown _ w (fun _ hk => hk.elim) _ _ (Galphabet.rdmk (Rd.mk_int _ _ _) (Rd.mk_int _ _ _)) _ _ (hh.rd0 4 rfl) _ hr38) (fun x39 => ?_)
       obtain ⟨x39_0, x39_1, x39_2, x39_3⟩ := x39
       refine JL_ctx (fun w hh => hh.tkn_rd 0 rfl) ?_
       refine JL_ctx (fun w hh => hh.tkn_rd 2 rfl) ?_
       refine JM rfl rfl ?_
       refine JL_q wn rfl (ex_extract rfl rfl) ?_
       refine JL_q wn rfl (ex_extract rfl rfl) ?_
       refine JL_st wn rfl (st_alloc zi_29 rfl) (fun b40 => ?_)
       refine JL_sk wn (sk_store_bx' 0 ti_29 rfl rfl (fun w hh => (cv_aggs ⟨cv_int, (hh.cv 2 rfl), (hh.cv 1 rfl), trivial⟩)) rfl rfl rfl rfl) ?_
       refine JA rfl rfl ?_
       refine JL_nt ?_
       refine J_seq ?_
       refine J_block ?_
       refine J_sr ?_
       refine JL_q wn rfl (ex_load_bx_agg 0 ti_29 rfl rfl rfl rfl) ?_
       refine JL_bnd fun r41 hr42 => ?_
       refine JL_call wn rfl Tryz.call36 rfl (Ca_of0 fun w hh => c_impl_roomy _ w (fun _ hk => hk.elim) _ _ (GConfig.rdmk (Rd.mk_int _ _ _) (hh.rd0 2 rfl) (hh.rd0 1 rfl)) _ hr42) (fun _ => ?_)
       refine JL_q wn rfl (ex_not rfl) ?_
       refine JA rfl rfl ?_
       refine JL_nt ?_
       refine J_if rfl (fun h43 => ?_) (fun h43 => ?_)
       ·refine J_sr ?_
        refine JA rfl rfl ?_
        refine JA rfl rfl ?_
        refine JL_nt ?_
        refine J_ret ?_
        refine N_block_ret ?_
        refine N_then_ret ?_
        refine N_ctx (fun w hh => SH.od_nil (α := (List Int)) 27 hh) ?_
        refine N_ctx (fun w hh => hh.tok 0 rfl) ?_
        exact N_ret2 rfl (rv_tmp rfl) (rv_tmp rfl) (fun w hh => ⟨((.slice none 0 0 : Value), ((.slice none 0 0 : Value).ownBlock.toList ++ [])), rfl, hh.sel [0] rfl⟩)
       ·refine J_sr ?_
        refine JM rfl rfl ?_
        refine JL_q wn rfl (ex_not rfl) ?_
        refine JA rfl rfl ?_
        refine JL_nt ?_
        refine J_if_false rfl (by rw [show ((!r30.2)) = true from h36]; rfl) ?_
        refine J_skip ?_
        refine N_block ?_
        refine N_then ?_
        refine J_loop' (S := (List (List Int)) × (List Int)) (G := Value × List Nat × Value × List Nat) (F_impl_HaltDerivation_L2 r6 r14) (fun s44 g45 => [(9, x8_0), (10, .int .i64 r6.2.1), (15, .int .i64 r14.2.1), (17, .pointer (some ⟨b18, 0, none⟩)), (18, .func (.func 33) #[] #[.pointer (some ⟨b18, 0, none⟩)]), (19, g45.2.2.1)]) (fun s44 g45 => [.fz w20 C26, .rd x8_0 r6.1, .tkn x8_0 r6.1 ((x8_0 : Value).ownBlock.toList ++ x8_1), .od 27 g45.1 s44.1 g45.2.1, .bx b18 39 [g45.1], .rd g45.2.2.1 s44.2, .tkn g45.2.2.1 s44.2 g45.2.2.2]) (s28.2.1, s28.1) (g29_2, g29_3, g29_0, g29_1) ⟨rfl, rfl, rfl, rfl, rfl, rfl, trivial⟩ [7, 14, 15, 11, 12, 9, 10] rfl rfl (fun s44 g45 => ?_) (fun s44 g45 => ?_)
        ·obtain ⟨g45_0, g45_1, g45_2, g45_3⟩ := g45
         unfold F_impl_HaltDerivation_L2
         refine J_block ?_
         refine J_sr ?_
         refine JM rfl rfl ?_
         refine JM rfl rfl ?_
         refine JM rfl rfl ?_
         refine JM rfl rfl ?_
         refine JL_bnd fun r46 hr47 => ?_
         refine JL_call wn rfl Tryz.call37 rfl (Ca_self (fun _ => rfl) fun w hh => c_impl_erasing _ w (fun _ hk => hk.elim) _ _ (hh.rd0 1 rfl) _ _ _ (hh.rd0 5 rfl) _ _ hr47) (fun x48 => ?_)
         refine JM rfl rfl ?_
         refine JL_q wn rfl (ex_extract rfl rfl) ?_
         refine JL_q wn rfl (ex_extract rfl rfl) ?_
         refine JL_st wn rfl (st_alloc zi_74 rfl) (fun b49 => ?_)
         refine JL_sk wn (sk_store_bx' 0 ti_74 rfl rfl (fun w hh => (cv_aggs ⟨cv_int, cv_int, (hh.cv_ow 1 rfl), trivial⟩)) rfl rfl rfl rfl) ?_
         refine JA rfl rfl ?_
         refine JL_nt ?_
         refine J_seq ?_
         refine J_sr ?_
         refine JM rfl rfl ?_
         refine JL_q wn rfl (ex_not rfl) ?_
         refine JL_nt ?_
         refine J_if rfl (fun h50 => ?_) (fun h50 => ?_)
         ·refine J_sr ?_
          refine JL_q wn rfl (ex_load_bx 6 ti_39 rfl rfl rfl) ?_
          refine JL_bnd fun r51 hr52 => ?_
          refine JL_call wn rfl Tryz.call38 rfl (Ca_self (fun _ => rfl) fun w hh => c_impl_shortDerivation _ w (fun _ hk => hk.elim) _ _ (hh.od0 5 rfl) _ hr52) (fun x53 => ?_)
          refine JL_ctx (fun w hh => hh.tok 6 rfl) ?_
          refine JL_ctx (fun w hh => hh.sub_rd 7 rfl (hh.pr 1 rfl)) ?_
          refine JL_ctx (fun w hh => hh.sub_tkn 1 rfl (hh.pr 2 rfl)) ?_
          refine JL_q wn rfl (ex_extract rfl rfl) ?_
          refine JL_q wn rfl (ex_extract rfl rfl) ?_
          refine JA rfl rfl ?_
          refine JA rfl rfl ?_
          refine JL_nt ?_
          refine J_ret ?_
          refine N_then_ret ?_
          refine N_block_ret ?_
          refine N_round_ret ?_
          exact N_ret2 rfl (rv_tmp rfl) (rv_tmp rfl) (fun w hh => ⟨(x53, ((g45_0 : Value).ownBlock.toList ++ g45_1)), rfl, hh.sel [1] rfl⟩)
         ·refine J_skip ?_
          refine N_then ?_
          refine J_sr ?_
          refine JM rfl rfl ?_
          refine JL_q wn rfl (ex_load_bx_agg 0 ti_74 rfl rfl rfl rfl) ?_
          refine JL_inlinev (args := [_]) (caps := [.pointer (some ⟨b18, 0, none⟩)]) wn rfl Tryz.call33 rfl rfl Tryz.func33 rfl Tryz.ntmps33 rfl rfl (fun K_ hK54 => ?_)
          refine J_sr ?_
          refine JL_st wn rfl (st_box' rfl (fun w hh => (cv_aggs ⟨cv_int, cv_int, (hh.cv_ow 1 rfl), trivial⟩))) (fun b55 => ?_)
          refine JL_nt ?_
          refine J_region ?_
          refine JL_q wn rfl (ex_load_bx 7 ti_39 rfl rfl rfl) ?_
          refine JL_q wn rfl (ex_fieldAddr fi_74_0 rfl rfl) ?_
          refine JL_q wn rfl (ex_load_bx 0 ti_2 rfl rfl rfl) ?_
          refine JL_q wn rfl (ex_fieldAddr fi_74_1 rfl rfl) ?_
          refine JL_q wn rfl (ex_load_bx 0 ti_2 rfl rfl rfl) ?_
          refine JL_st wn rfl (st_buildSlice (vs := [.int .i64 r46.1.rule, .int .i64 r46.1.at_]) ([r46.1.rule, r46.1.at_] : List Int) Tryz.underlying27 ti_2 zi_2 rfl rfl rfl (fun w hh => ⟨(Rd.mk_int _ _ _), (Rd.mk_int _ _ _), trivial⟩)) (fun b56 => ?_)
          refine JL_ctx (fun w hh => hh.tokf 0 rfl rfl) ?_
          refine JL_st wn rfl (st_buildSlice_od (vs := [(.slice (some ⟨b56, 0, none⟩) 2 2)]) (B := ((((.slice (some ⟨b56, 0, none⟩) 2 2) : Value).ownBlock.toList ++ []) ++ [])) ([([r46.1.rule, r46.1.at_] : List Int)] : List (List Int)) [0] Tryz.underlying39 ti_27 zi_27 rfl rfl rfl rfl rfl (fun w hh => (dwv_cons (hh.dw 0 rfl) dwv_nil))) (fun b57 => ?_)
          refine JL_bnd fun z58 hz59 => ?_
          refine JL_st wn rfl (st_append_od 9 0 Tryz.underlying39 ti_27 zi_27 rfl bi_27 rfl rfl rfl rfl rfl rfl hz59) (fun v60 => ?_)
          refine JL_sk wn (sk_store_bx' 10 ti_39 rfl rfl (fun w hh => (hh.cv_od 9 rfl)) rfl rfl rfl rfl) ?_
          refine JL_nil ?_
          refine N_inl0 (.inr rfl) hK54 rfl ?_
          refine JL_nt ?_
          refine J_region ?_
          refine JL_q wn rfl (ex_fieldAddr fi_74_2 rfl rfl) ?_
          refine JL_q wn rfl (ex_load_bx 4 ti_27 rfl rfl rfl) ?_
          refine JA rfl rfl ?_
          refine JL_nil ?_
          refine N_block ?_
          refine N_ctx (fun w hh => hh.tokf 5 rfl rfl) ?_
          exact N_next' (v60, (g45_1 ++ ((((.slice (some ⟨b56, 0, none⟩) 2 2) : Value).ownBlock.toList ++ []) ++ [])), x48, ((x48 : Value).ownBlock.toList ++ [])) ⟨rfl, rfl, rfl, rfl, rfl, rfl, trivial⟩ [7, 8, 9, 10, 11, 6, 0] rfl rfl
        ·obtain ⟨g45_0, g45_1, g45_2, g45_3⟩ := g45
         exact N_none
      ·refine JL_q (wants_some rfl rfl rfl h36) rfl (ex_move rfl) ?_
       refine JL_q (wants_some rfl rfl rfl h36) rfl (ex_move rfl) ?_
       refine JL_q (wants_some rfl rfl rfl h36) rfl (ex_eql rfl rfl) ?_
       refine JL_q wn rfl (ex_pick_false rfl h36 rfl) ?_
       refine JL_nt ?_
       refine J_if rfl (fun h61 => ?_) (fun h61 => ?_)
       ·refine J_sr ?_
        refine JM rfl rfl ?_
        refine JM rfl rfl ?_
        refine JM rfl rfl ?_
        refine JL_q wn rfl (ex_not rfl) ?_
        refine JA rfl rfl ?_
        refine JA rfl rfl ?_
        refine JA rfl rfl ?_
        refine JA rfl rfl ?_
        refine JL_nt ?_
        refine J_ret ?_
        refine N_mid_ret ?_
        refine N_then_ret ?_
        refine N_block_ret ?_
        refine N_then_ret ?_
        refine N_round_reti ?_
        refine N_inlD4 hK25 rfl (rv_tmp rfl) (rv_tmp rfl) (rv_tmp rfl) (rv_tmp rfl) 2 [11] rfl rfl ?_
        refine JD_take (i := 8) hp19 rfl (by kernel_rfl) (by kernel_rfl) (by kernel_rfl) wn rfl (ex_move rfl) ?_
        refine JD_take (i := 9) hp19 rfl (by kernel_rfl) (by kernel_rfl) (by kernel_rfl) wn rfl (ex_extract rfl rfl) ?_
        refine JD_take (i := 10) hp19 rfl (by kernel_rfl) (by kernel_rfl) (by kernel_rfl) wn rfl (ex_extract rfl rfl) ?_
        refine JD_take (i := 11) hp19 rfl (by kernel_rfl) (by kernel_rfl) (by kernel_rfl) wn rfl (ex_extract rfl rfl) ?_
        refine JD_take (i := 12) hp19 rfl (by kernel_rfl) (by kernel_rfl) (by kernel_rfl) wn rfl (ex_extract rfl rfl) ?_
        refine JD_take (i := 13) hp19 rfl (by kernel_rfl) (by kernel_rfl) (by kernel_rfl) wn rfl (ex_assign rfl) ?_
        refine JD_take (i := 14) hp19 rfl (by kernel_rfl) (by kernel_rfl) (by kernel_rfl) wn rfl (ex_assign rfl) ?_
        refine JD_take (i := 15) hp19 rfl (by kernel_rfl) (by kernel_rfl) (by kernel_rfl) wn rfl (ex_assign rfl) ?_
        refine JD_take (i := 16) hp19 rfl (by kernel_rfl) (by kernel_rfl) (by kernel_rfl) wn rfl (ex_assign rfl) ?_
        refine JD_done (by kernel_rfl) ?_
        refine N_then ?_
        refine J_seq ?_
        refine J_sr ?_
        refine JM rfl rfl ?_
        refine JL_q wn rfl (ex_neq rfl rfl) ?_
        refine JL_nt ?_
        refine J_if_false rfl (by decide) ?_
        refine J_skip ?_
        refine N_then ?_
        refine J_sr ?_
        refine JL_q wn rfl (ex_load_bx_agg 11 ti_70 rfl rfl rfl rfl) ?_
        refine JM rfl rfl ?_
        refine JL_bnd fun r62 hr63 => ?_
        refine JL_call wn rfl Tryz.call35 rfl (Ca_self (fun _ => rfl) fun w hh => c_impl_alphabet_shown _ w (fun _ hk => hk.elim) _ _ (Galphabet.rdmk (Rd.mk_int _ _ _) (Rd.mk_int _ _ _)) _ _ (hh.rd0 4 rfl) _ hr63) (fun x64 => ?_)
        obtain ⟨x64_0, x64_1, x64_2, x64_3⟩ := x64
        refine JL_ctx (fun w hh => hh.tkn_rd 0 rfl) ?_
        refine JL_ctx (fun w hh => hh.tkn_rd 2 rfl) ?_
        refine JM rfl rfl ?_
        refine JL_q wn rfl (ex_extract rfl rfl) ?_
        refine JL_q wn rfl (ex_extract rfl rfl) ?_
        refine JL_st wn rfl (st_alloc zi_29 rfl) (fun b65 => ?_)
        refine JL_sk wn (sk_store_bx' 0 ti_29 rfl rfl (fun w hh => (cv_aggs ⟨cv_int, (hh.cv 2 rfl), (hh.cv 1 rfl), trivial⟩)) rfl rfl rfl rfl) ?_
        refine JA rfl rfl ?_
        refine JL_nt ?_
        refine J_seq ?_
        refine J_block ?_
        refine J_sr ?_
        refine JL_q wn rfl (ex_load_bx_agg 0 ti_29 rfl rfl rfl rfl) ?_
        refine JL_bnd fun r66 hr67 => ?_
        refine JL_call wn rfl Tryz.call36 rfl (Ca_of0 fun w hh => c_impl_roomy _ w (fun _ hk => hk.elim) _ _ (GConfig.rdmk (Rd.mk_int _ _ _) (hh.rd0 2 rfl) (hh.rd0 1 rfl)) _ hr67) (fun _ => ?_)
        refine JL_q wn rfl (ex_not rfl) ?_
        refine JA rfl rfl ?_
        refine JL_nt ?_
        refine J_if rfl (fun h68 => ?_) (fun h68 => ?_)
        ·refine J_sr ?_
         refine JA rfl rfl ?_
         refine JA rfl rfl ?_
         refine JL_nt ?_
         refine J_ret ?_
         refine N_block_ret ?_
         refine N_then_ret ?_
         refine N_ctx (fun w hh => SH.od_nil (α := (List Int)) 27 hh) ?_
         refine N_ctx (fun w hh => hh.tok 0 rfl) ?_
         exact N_ret2 rfl (rv_tmp rfl) (rv_tmp rfl) (fun w hh => ⟨((.slice none 0 0 : Value), ((.slice none 0 0 : Value).ownBlock.toList ++ [])), rfl, hh.sel [0] rfl⟩)
        ·refine J_sr ?_
         refine JM rfl rfl ?_
         refine JL_q wn rfl (ex_not rfl) ?_
         refine JA rfl rfl ?_
         refine JL_nt ?_
         refine J_if_true rfl (by rw [show ((!r30.2)) = false from h36]; rfl) ?_
         refine J_sr ?_
         refine JA rfl rfl ?_
         refine JA rfl rfl ?_
         refine JL_nt ?_
         refine J_ret ?_
         refine N_block_ret ?_
         refine N_then_ret ?_
         refine N_ctx (fun w hh => SH.od_nil (α := (List Int)) 27 hh) ?_
         refine N_ctx (fun w hh => hh.tok 0 rfl) ?_
         exact N_ret2 rfl (rv_tmp rfl) (rv_tmp rfl) (fun w hh => ⟨((.slice none 0 0 : Value), ((.slice none 0 0 : Value).ownBlock.toList ++ [])), rfl, hh.sel [0] rfl⟩)
       ·refine J_skip ?_
        exact N_meet' () ⟨rfl, rfl, rfl, rfl, rfl, rfl, trivial⟩ [2, 3, 6, 7, 8, 1, 0, 9, 10, 11] rfl rfl
     ·refine N_then ?_
      refine J_seq ?_
      refine J_sr ?_
      refine JL_q wn rfl (ex_fieldAddr fi_74_2 rfl rfl) ?_
      refine JL_q wn rfl (ex_load_bx 6 ti_27 rfl rfl rfl) ?_
      refine JL_q wn rfl (ex_len_ow 5 Tryz.underlying27 rfl rfl) ?_
      refine JL_q wn rfl (ex_gtr rfl rfl) ?_
      refine JL_nt ?_
      refine J_if rfl (fun h69 => ?_) (fun h69 => ?_)
      ·refine J_sr ?_
       refine JA rfl rfl ?_
       refine JA rfl rfl ?_
       refine JA rfl rfl ?_
       refine JA rfl rfl ?_
       refine JL_nt ?_
       refine J_ret ?_
       refine N_then_ret ?_
       refine N_block_ret ?_
       refine N_then_ret ?_
       refine N_round_reti ?_
       refine N_inlD4 hK25 rfl (rv_tmp rfl) (rv_tmp rfl) (rv_tmp rfl) (rv_tmp rfl) 0 [9] rfl rfl ?_
       refine JD_take (i := 8) hp19 rfl (by kernel_rfl) (by kernel_rfl) (by kernel_rfl) wn rfl (ex_move rfl) ?_
       refine JD_take (i := 9) hp19 rfl (by kernel_rfl) (by kernel_rfl) (by kernel_rfl) wn rfl (ex_extract rfl rfl) ?_
       refine JD_take (i := 10) hp19 rfl (by kernel_rfl) (by kernel_rfl) (by kernel_rfl) wn rfl (ex_extract rfl rfl) ?_
       refine JD_take (i := 11) hp19 rfl (by kernel_rfl) (by kernel_rfl) (by kernel_rfl) wn rfl (ex_extract rfl rfl) ?_
       refine JD_take (i := 12) hp19 rfl (by kernel_rfl) (by kernel_rfl) (by kernel_rfl) wn rfl (ex_extract rfl rfl) ?_
       refine JD_take (i := 13) hp19 rfl (by kernel_rfl) (by kernel_rfl) (by kernel_rfl) wn rfl (ex_assign rfl) ?_
       refine JD_take (i := 14) hp19 rfl (by kernel_rfl) (by kernel_rfl) (by kernel_rfl) wn rfl (ex_assign rfl) ?_
       refine JD_take (i := 15) hp19 rfl (by kernel_rfl) (by kernel_rfl) (by kernel_rfl) wn rfl (ex_assign rfl) ?_
       refine JD_take (i := 16) hp19 rfl (by kernel_rfl) (by kernel_rfl) (by kernel_rfl) wn rfl (ex_assign rfl) ?_
       refine JD_done (by kernel_rfl) ?_
       refine N_then ?_
       refine J_seq ?_
       refine J_sr ?_
       refine JM rfl rfl ?_
       refine JL_q wn rfl (ex_neq rfl rfl) ?_
       refine JL_nt ?_
       refine J_if_true rfl (by decide) ?_
       refine J_sr ?_
       refine JM rfl rfl ?_
       refine JA rfl rfl ?_
       refine JA rfl rfl ?_
       refine JL_nt ?_
       refine J_ret ?_
       refine N_then_ret ?_
       refine N_ctx (fun w hh => SH.od_nil (α := (List Int)) 27 hh) ?_
       refine N_ctx (fun w hh => hh.tok 0 rfl) ?_
       exact N_ret2 rfl (rv_tmp rfl) (rv_tmp rfl) (fun w hh => ⟨((.slice none 0 0 : Value), ((.slice none 0 0 : Value).ownBlock.toList ++ [])), rfl, hh.sel [0] rfl⟩)
      ·refine J_skip ?_
       refine N_then ?_
       refine J_sr ?_
       refine JM rfl rfl ?_
       refine JL_q wn rfl (ex_load_bx_agg 6 ti_74 rfl rfl rfl rfl) ?_
       refine JL_inlinev (args := [_]) (caps := [.pointer (some ⟨b18, 0, none⟩)]) wn rfl Tryz.call33 rfl rfl Tryz.func33 rfl Tryz.ntmps33 rfl rfl (fun K_ hK70 => ?_)
       refine J_sr ?_
       refine JL_st wn rfl (st_box' rfl (fun w hh => (cv_aggs ⟨cv_int, cv_int, (hh.cv_ow 5 rfl), trivial⟩))) (fun b71 => ?_)
       refine JL_nt ?_
       refine J_region ?_
       refine JL_q wn rfl (ex_load_bx 4 ti_39 rfl rfl rfl) ?_
       refine JL_q wn rfl (ex_fieldAddr fi_74_0 rfl rfl) ?_
       refine JL_q wn rfl (ex_load_bx 0 ti_2 rfl rfl rfl) ?_
       refine JL_q wn rfl (ex_fieldAddr fi_74_1 rfl rfl) ?_
       refine JL_q wn rfl (ex_load_bx 0 ti_2 rfl rfl rfl) ?_
       refine JL_st wn rfl (st_buildSlice (vs := [.int .i64 r30.1.rule, .int .i64 r30.1.at_]) ([r30.1.rule, r30.1.at_] : List Int) Tryz.underlying27 ti_2 zi_2 rfl rfl rfl (fun w hh => ⟨(Rd.mk_int _ _ _), (Rd.mk_int _ _ _), trivial⟩)) (fun b72 => ?_)
       refine JL_ctx (fun w hh => hh.tokf 0 rfl rfl) ?_
       refine JL_st wn rfl (st_buildSlice_od (vs := [(.slice (some ⟨b72, 0, none⟩) 2 2)]) (B := ((((.slice (some ⟨b72, 0, none⟩) 2 2) : Value).ownBlock.toList ++ []) ++ [])) ([([r30.1.rule, r30.1.at_] : List Int)] : List (List Int)) [0] Tryz.underlying39 ti_27 zi_27 rfl rfl rfl rfl rfl (fun w hh => (dwv_cons (hh.dw 0 rfl) dwv_nil))) (fun b73 => ?_)
       refine JL_bnd fun z74 hz75 => ?_
       refine JL_st wn rfl (st_append_od 6 0 Tryz.underlying39 ti_27 zi_27 rfl bi_27 rfl rfl rfl rfl rfl rfl hz75) (fun v76 => ?_)
       refine JL_sk wn (sk_store_bx' 7 ti_39 rfl rfl (fun w hh => (hh.cv_od 6 rfl)) rfl rfl rfl rfl) ?_
       refine JL_nil ?_
       refine N_inl0 (.inr rfl) hK70 rfl ?_
       refine JL_nt ?_
       refine J_region ?_
       refine JL_q wn rfl (ex_fieldAddr fi_74_2 rfl rfl) ?_
       refine JL_q wn rfl (ex_load_bx 10 ti_27 rfl rfl rfl) ?_
       refine JA rfl rfl ?_
       refine JL_nil ?_
       refine N_block ?_
       refine N_then ?_
       refine J_region ?_
       refine JM rfl rfl ?_
       refine JL_q wn rfl (ex_add rfl rfl) ?_
       refine JA rfl rfl ?_
       refine JL_nil ?_
       refine N_ctx (fun w hh => hh.tokf 9 rfl rfl) ?_
       exact N_next' (x32, ((x32 : Value).ownBlock.toList ++ []), v76, (g29_3 ++ ((((.slice (some ⟨b72, 0, none⟩) 2 2) : Value).ownBlock.toList ++ []) ++ []))) ⟨rfl, rfl, rfl, rfl, rfl, rfl, trivial⟩ [5, 6, 10, 0, 7, 8, 9, 12, 13, 14] rfl rfl
    ·obtain ⟨g29_0, g29_1, g29_2, g29_3⟩ := g29
     exact N_none
set_option maxHeartbeats 40000000 in
theorem c_impl_size_impl_Rewrite (A : Nat → Prop) (w : World) (hA : ∀ k, A k → k < w.heap.size) (v0_ : Value) (p0 : (List GRewrite)) (hp0 : Rd A w v0_ p0) (r : Int) (hr : F_impl_size_impl_Rewrite p0 = some r) :
  Con Tryz.prog 87 [v0_] A w (fun x_ : Unit => .int .i64 r) (fun x_ => []) := by
 refine Con_of (v := fun (r : Int) (x_ : Unit) => .int .i64 r) (fs := fun r x_ => []) Tryz.func87 rfl Tryz.ntmps87 rfl ((SH.start hA).start_rd rfl hp0) rfl ?_ hr
 unfold F_impl_size_impl_Rewrite
 refine J_sr ?_
 refine JA rfl rfl ?_
 refine JL_nt ?_
 refine J_sr ?_
 refine JM rfl rfl ?_
 refine JL_q wn rfl (ex_len_rd 0 Tryz.underlying34 rfl rfl) ?_
 refine JA rfl rfl ?_
 refine JL_nt ?_
 refine J_ret ?_
 exact N_ret1 rfl (rv_tmp rfl) (fun w hh => ⟨(), rfl, hh.sel [] rfl⟩)
set_option maxHeartbeats 40000000 in
theorem c_slices_IndexFunc_Simpl_Rewrite_impl_Rewrite (A : Nat → Prop) (w : World) (hA : ∀ k, A k → k < w.heap.size) (v0_ : Value) (p0 : (List GRewrite)) (hp0 : Rd A w v0_ p0) (v1_ : Value) (p1 : (GRewrite → Option Bool)) (hp1 : Clo Tryz.prog w v1_ p1 .bool) (r : Int) (hr : F_slices_IndexFunc_Simpl_Rewrite_impl_Rewrite p0 p1 = some r) :
  Con Tryz.prog 115 [v0_, v1_] A w (fun x_ : Unit => .int .i64 r) (fun x_ => []) := by
 refine Con_of (v := fun (r : Int) (x_ : Unit) => .int .i64 r) (fs := fun r x_ => []) Tryz.func115 rfl Tryz.ntmps115 rfl ((SH.start hA).start_rd rfl hp0) rfl ?_ hr
 unfold F_slices_IndexFunc_Simpl_Rewrite_impl_Rewrite
 refine J_sr ?_
 refine JA rfl rfl ?_
 refine JL_nt ?_
 refine J_seq ?_
 refine J_sr ?_
 refine JM rfl rfl ?_
 refine JL_q wn rfl (ex_len_rd 0 Tryz.underlying34 rfl rfl) ?_
 refine JM rfl rfl ?_
 refine JL_nt ?_
 refine J_loop' (S := Int) (G := Unit) (F_slices_IndexFunc_Simpl_Rewrite_impl_Rewrite_L1 p0 p1) (fun s1 _ => [(0, v0_), (1, v1_), (7, .int .i64 (p0.length : Int)), (8, .int .i64 s1)]) (fun s1 _ => [.rd v0_ p0]) 0 () ⟨rfl, rfl, rfl, rfl, trivial⟩ [0] rfl rfl (fun s1 g2 => ?_) (fun s1 g2 => ?_)
 ·unfold F_slices_IndexFunc_Simpl_Rewrite_impl_Rewrite_L1
  refine J_sr ?_
  refine JL_q wn rfl (ex_lss rfl rfl) ?_
  refine JL_nt ?_
  refine J_seq ?_
  refine J_if rfl (fun h3 => ?_) (fun h3 => ?_)
  ·refine J_skip ?_
   refine N_then ?_
   refine J_seq ?_
   refine J_block ?_
   refine J_sr ?_
   refine JM rfl rfl ?_
   refine JA rfl rfl ?_
   refine JL_nt ?_
   refine J_sr ?_
   refine JM rfl rfl ?_
   refine JM rfl rfl ?_
   refine JM rfl rfl ?_
   refine JL_bnd fun y4 hy5 => ?_
   refine JL_st wn rfl (st_index 0 Tryz.underlying34 ti_88 rfl rfl rfl hy5) (fun q6 => ?_)
   refine JL_st wn rfl (st_load_pt_o 0 (GRewrite.opens _) ti_88 rfl rfl) (fun v7 => ?_)
   refine JL_bnd fun r8 hr9 => ?_
   refine JL_clo wn rfl hp1 rfl rfl (fun w hh => (GRewrite.rdmk (hh.rd0 0 rfl) (hh.rd0 1 rfl))) hr9 ?_
   refine JL_nt ?_
   refine J_if rfl (fun h10 => ?_) (fun h10 => ?_)
   ·refine J_sr ?_
    refine JM rfl rfl ?_
    refine JA rfl rfl ?_
    refine JL_nt ?_
    refine J_ret ?_
    refine N_block_ret ?_
    refine N_then_ret ?_
    refine N_round_ret ?_
    refine N_then_ret ?_
    exact N_ret1 rfl (rv_tmp rfl) (fun w hh => ⟨(), rfl, hh.sel [] rfl⟩)
   ·refine J_skip ?_
    refine N_block ?_
    refine N_then ?_
    refine J_region ?_
    refine JL_q wn rfl (ex_add rfl rfl) ?_
    refine JM rfl rfl ?_
    refine JL_nil ?_
    exact N_next' () ⟨rfl, rfl, rfl, rfl, trivial⟩ [3] rfl rfl
  ·refine J_exit ?_
   refine N_then_exit ?_
   exact N_break' () ⟨rfl, rfl, rfl, rfl, trivial⟩ [0] rfl rfl
 ·refine N_then ?_
  refine J_sr ?_
  refine JA rfl rfl ?_
  refine JL_nt ?_
  refine J_ret ?_
  exact N_ret1 rfl (rv_tmp rfl) (fun w hh => ⟨(), rfl, hh.sel [] rfl⟩)
set_option maxHeartbeats 40000000 in
theorem c_slices_ContainsFunc_Simpl_Rewrite_impl_Rewrite (A : Nat → Prop) (w : World) (hA : ∀ k, A k → k < w.heap.size) (v0_ : Value) (p0 : (List GRewrite)) (hp0 : Rd A w v0_ p0) (v1_ : Value) (p1 : (GRewrite → Option Bool)) (hp1 : Clo Tryz.prog w v1_ p1 .bool) (r : Bool) (hr : F_slices_ContainsFunc_Simpl_Rewrite_impl_Rewrite p0 p1 = some r) :
  Con Tryz.prog 88 [v0_, v1_] A w (fun x_ : Unit => .bool r) (fun x_ => []) := by
 refine Con_of (v := fun (r : Bool) (x_ : Unit) => .bool r) (fs := fun r x_ => []) Tryz.func88 rfl Tryz.ntmps88 rfl ((SH.start hA).start_rd rfl hp0) rfl ?_ hr
 unfold F_slices_ContainsFunc_Simpl_Rewrite_impl_Rewrite
 refine J_sr ?_
 refine JA rfl rfl ?_
 refine JL_nt ?_
 refine J_sr ?_
 refine JM rfl rfl ?_
 refine JM rfl rfl ?_
 refine JL_bnd fun r1 hr2 => ?_
 refine JL_call wn rfl Tryz.call115 rfl (Ca_of0 fun w hh => c_slices_IndexFunc_Simpl_Rewrite_impl_Rewrite _ w (fun _ hk => hk.elim) _ _ (hh.rd0 0 rfl) _ _ (hp1.later hh.below) _ hr2) (fun _ => ?_)
 refine JL_q wn rfl (ex_geq rfl rfl) ?_
 refine JA rfl rfl ?_
 refine JL_nt ?_
 refine J_ret ?_
 exact N_ret1 rfl (rv_tmp rfl) (fun w hh => ⟨(), rfl, hh.sel [] rfl⟩)
set_option maxHeartbeats 40000000 in
theorem c_slices_IndexFunc_SSint64_Sint64 (A : Nat → Prop) (w : World) (hA : ∀ k, A k → k < w.heap.size) (v0_ : Value) (p0 : (List (List Int))) (hp0 : Rd A w v0_ p0) (v1_ : Value) (p1 : ((List Int) → Option Bool)) (hp1 : Clo Tryz.prog w v1_ p1 .bool) (r : Int) (hr : F_slices_IndexFunc_SSint64_Sint64 p0 p1 = some r) :
  Con Tryz.prog 116 [v0_, v1_] A w (fun x_ : Unit => .int .i64 r) (fun x_ => []) := by
 refine Con_of (v := fun (r : Int) (x_ : Unit) => .int .i64 r) (fs := fun r x_ => []) Tryz.func116 rfl Tryz.ntmps116 rfl ((SH.start hA).start_rd rfl hp0) rfl ?_ hr
 unfold F_slices_IndexFunc_SSint64_Sint64
 refine J_sr ?_
 refine JA rfl rfl ?_
 refine JL_nt ?_
 refine J_seq ?_
 refine J_sr ?_
 refine JM rfl rfl ?_
 refine JL_q wn rfl (ex_len_rd 0 Tryz.underlying39 rfl rfl) ?_
 refine JM rfl rfl ?_
 refine JL_nt ?_
 refine J_loop' (S := Int) (G := Unit) (F_slices_IndexFunc_SSint64_Sint64_L1 p0 p1) (fun s1 _ => [(0, v0_), (1, v1_), (7, .int .i64 (p0.length : Int)), (8, .int .i64 s1)]) (fun s1 _ => [.rd v0_ p0]) 0 () ⟨rfl, rfl, rfl, rfl, trivial⟩ [0] rfl rfl (fun s1 g2 => ?_) (fun s1 g2 => ?_)
 ·unfold F_slices_IndexFunc_SSint64_Sint64_L1
  refine J_sr ?_
  refine JL_q wn rfl (ex_lss rfl rfl) ?_
  refine JL_nt ?_
  refine J_seq ?_
  refine J_if rfl (fun h3 => ?_) (fun h3 => ?_)
  ·refine J_skip ?_
   refine N_then ?_
   refine J_seq ?_
   refine J_block ?_
   refine J_sr ?_
   refine JM rfl rfl ?_
   refine JA rfl rfl ?_
   refine JL_nt ?_
   refine J_sr ?_
   refine JM rfl rfl ?_
   refine JM rfl rfl ?_
   refine JM rfl rfl ?_
   refine JL_bnd fun y4 hy5 => ?_
   refine JL_st wn rfl (st_index 0 Tryz.underlying39 ti_27 rfl rfl rfl hy5) (fun q6 => ?_)
   refine JL_st wn rfl (st_load_pt_o 0 (opens_sl _) ti_27 rfl rfl) (fun v7 => ?_)
   refine JL_bnd fun r8 hr9 => ?_
   refine JL_clo wn rfl hp1 rfl rfl (fun w hh => (hh.rd0 0 rfl)) hr9 ?_
   refine JL_nt ?_
   refine J_if rfl (fun h10 => ?_) (fun h10 => ?_)
   ·refine J_sr ?_
    refine JM rfl rfl ?_
    refine JA rfl rfl ?_
    refine JL_nt ?_
    refine J_ret ?_
    refine N_block_ret ?_
    refine N_then_ret ?_
    refine N_round_ret ?_
    refine N_then_ret ?_
    exact N_ret1 rfl (rv_tmp rfl) (fun w hh => ⟨(), rfl, hh.sel [] rfl⟩)
   ·refine J_skip ?_
    refine N_block ?_
    refine N_then ?_
    refine J_region ?_
    refine JL_q wn rfl (ex_add rfl rfl) ?_
    refine JM rfl rfl ?_
    refine JL_nil ?_
    exact N_next' () ⟨rfl, rfl, rfl, rfl, trivial⟩ [2] rfl rfl
  ·refine J_exit ?_
   refine N_then_exit ?_
   exact N_break' () ⟨rfl, rfl, rfl, rfl, trivial⟩ [0] rfl rfl
 ·refine N_then ?_
  refine J_sr ?_
  refine JA rfl rfl ?_
  refine JL_nt ?_
  refine J_ret ?_
  exact N_ret1 rfl (rv_tmp rfl) (fun w hh => ⟨(), rfl, hh.sel [] rfl⟩)
set_option maxHeartbeats 40000000 in
theorem c_slices_ContainsFunc_SSint64_Sint64 (A : Nat → Prop) (w : World) (hA : ∀ k, A k → k < w.heap.size) (v0_ : Value) (p0 : (List (List Int))) (hp0 : Rd A w v0_ p0) (v1_ : Value) (p1 : ((List Int) → Option Bool)) (hp1 : Clo Tryz.prog w v1_ p1 .bool) (r : Bool) (hr : F_slices_ContainsFunc_SSint64_Sint64 p0 p1 = some r) :
  Con Tryz.prog 91 [v0_, v1_] A w (fun x_ : Unit => .bool r) (fun x_ => []) := by
 refine Con_of (v := fun (r : Bool) (x_ : Unit) => .bool r) (fs := fun r x_ => []) Tryz.func91 rfl Tryz.ntmps91 rfl ((SH.start hA).start_rd rfl hp0) rfl ?_ hr
 unfold F_slices_ContainsFunc_SSint64_Sint64
 refine J_sr ?_
 refine JA rfl rfl ?_
 refine JL_nt ?_
 refine J_sr ?_
 refine JM rfl rfl ?_
 refine JM rfl rfl ?_
 refine JL_bnd fun r1 hr2 => ?_
 refine JL_call wn rfl Tryz.call116 rfl (Ca_of0 fun w hh => c_slices_IndexFunc_SSint64_Sint64 _ w (fun _ hk => hk.elim) _ _ (hh.rd0 0 rfl) _ _ (hp1.later hh.below) _ hr2) (fun _ => ?_)
 refine JL_q wn rfl (ex_geq rfl rfl) ?_
 refine JA rfl rfl ?_
 refine JL_nt ?_
 refine J_ret ?_
 exact N_ret1 rfl (rv_tmp rfl) (fun w hh => ⟨(), rfl, hh.sel [] rfl⟩)
set_option maxHeartbeats 40000000 in
theorem c_impl_isLetters (A : Nat → Prop) (w : World) (hA : ∀ k, A k → k < w.heap.size) (v0_ : Value) (p0 : (List Int)) (hp0 : Rd A w v0_ p0) (r : Bool) (hr : F_impl_isLetters p0 = some r) :
  Con Tryz.prog 90 [v0_] A w (fun x_ : Unit => .bool r) (fun x_ => []) := by
 refine Con_of (v := fun (r : Bool) (x_ : Unit) => .bool r) (fs := fun r x_ => []) Tryz.func90 rfl Tryz.ntmps90 rfl ((SH.start hA).start_rd rfl hp0) rfl ?_ hr
 unfold F_impl_isLetters
 refine J_sr ?_
 refine JA rfl rfl ?_
 refine JL_nt ?_
 refine J_sr ?_
 refine JM rfl rfl ?_
 refine JL_bnd fun r1 hr2 => ?_
 refine JL_call wn rfl Tryz.call81 rfl (Ca_of0 fun w hh => c_impl_allWithin _ w (fun _ hk => hk.elim) _ _ (hh.rd0 0 rfl) _ _ _ hr2) (fun _ => ?_)
 refine JA rfl rfl ?_
 refine JL_nt ?_
 refine J_ret ?_
 exact N_ret1 rfl (rv_tmp rfl) (fun w hh => ⟨(), rfl, hh.sel [] rfl⟩)
end Go.Proofs.YtlepdmenejbleaaGreat
