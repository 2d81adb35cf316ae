/-
  Each function of the program computes what its plain function says: printed by program. No condition.
-/
import Derived.Test.YtgojoooilijiiaaFn
import Derived.Test.YtgojoooilijiiaaInf
namespace Go.Proofs.Ytgojoooilijiiaa
open Go Go.Tc Go.Fn
set_option linter.unusedVariables false

set_option maxHeartbeats 40000000 in
theorem c_laws_r8Long (A : Nat → Prop) (w : World) (hA : ∀ k, A k → k < w.heap.size) (v0_ : Value) (p0 : (List (Ik .u8))) (hp0 : Rd A w v0_ p0) (v1_ : Value) (p1 : (List (Ik .u8))) (hp1 : Rd A w v1_ p1) (r : Bool) (hr : F_laws_r8Long p0 p1 = some r) :
    Con Try.prog 6 [v0_, v1_] A w (fun x_ : Unit => .bool r) (fun x_ => []) := by
  refine Con_of (v := fun (r : Bool) (x_ : Unit) => .bool r) (fs := fun r x_ => []) Try.func6 rfl Try.ntmps6 rfl (((SH.start hA).start_rd rfl hp0).start_rd rfl hp1) rfl ?_ hr
  unfold F_laws_r8Long
  refine J_seq ?_
  refine J_region ?_
  refine JL_q (wants_none rfl) rfl (ex_assign rfl) ?_
  refine JL_nil ?_
  refine N_then ?_
  refine J_seq ?_
  refine J_region ?_
  refine JL_q (wants_none rfl) rfl (ex_move rfl) ?_
  refine JL_q (wants_none rfl) rfl (ex_len_rd 1 Try.underlying22 rfl rfl) ?_
  refine JL_q (wants_none rfl) rfl (ex_gtr rfl rfl) ?_
  refine JL_q (wants_none rfl) rfl (ex_move rfl) ?_
  refine JL_cond (fun h1 => ?_) (fun h1 => ?_)
  · refine JL_passed rfl rfl rfl h1 ?_
    refine JL_passed rfl rfl rfl h1 ?_
    refine JL_passed rfl rfl rfl h1 ?_
    refine JL_q (wants_none rfl) rfl (ex_pick_true rfl h1 rfl) ?_
    refine JL_q (wants_none rfl) rfl (ex_assign rfl) ?_
    refine JL_nil ?_
    refine N_then ?_
    refine J_ret ?_
    exact N_ret1 rfl (rv_tmp rfl) (fun w hh => ⟨(), rfl, hh.sel [] rfl⟩)
  · refine JL_q (wants_some rfl rfl rfl h1) rfl (ex_move rfl) ?_
    refine JL_q (wants_some rfl rfl rfl h1) rfl (ex_len_rd 0 Try.underlying22 rfl rfl) ?_
    refine JL_q (wants_some rfl rfl rfl h1) rfl (ex_gtr rfl rfl) ?_
    refine JL_q (wants_none rfl) rfl (ex_pick_false rfl h1 rfl) ?_
    refine JL_q (wants_none rfl) rfl (ex_assign rfl) ?_
    refine JL_nil ?_
    refine N_then ?_
    refine J_ret ?_
    exact N_ret1 rfl (rv_tmp rfl) (fun w hh => ⟨(), rfl, hh.sel [] rfl⟩)

set_option maxHeartbeats 40000000 in
theorem c_spec_l00From (A : Nat → Prop) (w : World) (hA : ∀ k, A k → k < w.heap.size) (v0_ : Value) (p0 : (List (Ik .u8))) (hp0 : Rd A w v0_ p0) (r : ((List (Ik .u8)) × Int × (Ik .u64))) (hr : F_spec_l00From p0 = some r) :
    Con Try.prog 34 [v0_] A w (fun x_ : Value × Nat => .pointer (some ⟨x_.2, 0, none⟩)) (fun x_ => [.pr (Sub v0_ p0 x_.1 r.1), .bx x_.2 131 [x_.1, .int .i64 r.2.1, .int .u64 r.2.2.val]]) := by
  refine Con_of (v := fun (r : ((List (Ik .u8)) × Int × (Ik .u64))) (x_ : Value × Nat) => .pointer (some ⟨x_.2, 0, none⟩)) (fs := fun r x_ => [.pr (Sub v0_ p0 x_.1 r.1), .bx x_.2 131 [x_.1, .int .i64 r.2.1, .int .u64 r.2.2.val]]) Try.func34 rfl Try.ntmps34 rfl ((SH.start hA).start_rd rfl hp0) rfl ?_ hr
  unfold F_spec_l00From
  refine J_seq ?_
  refine J_region ?_
  refine JL_q (wants_none rfl) rfl (ex_assign rfl) ?_
  refine JL_nil ?_
  refine N_then ?_
  refine J_seq ?_
  refine J_region ?_
  refine JL_q (wants_none rfl) rfl (ex_move rfl) ?_
  refine JL_q (wants_none rfl) rfl (ex_build si_131 rfl (.cons fi_131_0 rfl rfl .nil) (fun w hh => ⟨(hh.cv 0 rfl), trivial⟩)) ?_
  refine JL_st (wants_none rfl) rfl (st_box' rfl (fun w hh => (cv_aggs ⟨(hh.cv 0 rfl), cv_int, cv_int, trivial⟩))) (fun b1 => ?_)
  refine JL_q (wants_none rfl) rfl (ex_assign rfl) ?_
  refine JL_nil ?_
  refine N_then ?_
  refine J_ret ?_
  refine N_ctx (fun w hh => hh.cons_pr (p := Sub v0_ p0 v0_ p0) Sub.refl) ?_
  exact N_ret1 rfl (rv_tmp rfl) (fun w hh => ⟨(v0_, b1), rfl, hh.sel [0, 1] rfl⟩)

set_option maxHeartbeats 40000000 in
theorem c_spec_l00Src_next (w : World) (b0_ : Nat) (p0 : Gl00Src) (v0_0 : Value) (B_ : List Nat) (hB_ : Ctx.owns [.bx b0_ 131 [v0_0, .int .i64 p0.at_, .int .u64 p0.seed.val]] = B_) (hn_ : PHanded w [.bx b0_ 131 [v0_0, .int .i64 p0.at_, .int .u64 p0.seed.val]]) (hp0_0 : Rd (fun k => k ∈ B_) w v0_0 p0.code) (r : (Int) × (Int × (Ik .u64))) (hr : F_spec_l00Src_next p0 = some r) :
    PtrCon Try.prog 89 [.pointer (some ⟨b0_, 0, none⟩)] w B_ (fun x_ : Unit => .int .i64 r.1) (fun x_ => [.bx b0_ 131 [v0_0, .int .i64 r.2.1, .int .u64 r.2.2.val]]) := by
  refine PtrCon_of (v := fun (r : (Int) × (Int × (Ik .u64))) (x_ : Unit) => .int .i64 r.1) (fs := fun r x_ => [.bx b0_ 131 [v0_0, .int .i64 r.2.1, .int .u64 r.2.2.val]]) Try.func89 rfl Try.ntmps89 rfl (show SH nowhere (bare w) w [.rd v0_0 p0.code, .bx b0_ 131 [v0_0, .int .i64 p0.at_, .int .u64 p0.seed.val], .tkn (.int .i64 0) (0 : Int) (restL w B_), rest w B_] from ((SH.begin hB_ hn_).cons_apart hB_ hp0_0)) rfl ?_ hr
  unfold F_spec_l00Src_next
  refine J_seq ?_
  refine J_region ?_
  refine JL_q (wants_none rfl) rfl (ex_assign rfl) ?_
  refine JL_nil ?_
  refine N_then ?_
  refine J_seq ?_
  refine J_region ?_
  refine JL_q (wants_none rfl) rfl (ex_assign rfl) ?_
  refine JL_nil ?_
  refine N_then ?_
  refine J_seq ?_
  refine J_cut' (S' := Int) (G' := Unit) (fun s1 _ => [(0, .pointer (some ⟨b0_, 0, none⟩)), (3, .int .i64 s1)]) (fun s1 _ => [rest w B_, .rd v0_0 p0.code, .bx b0_ 131 [v0_0, .int .i64 p0.at_, .int .u64 p0.seed.val], .tkn (.int .i64 0) (0 : Int) (restL w B_)]) ?_ (fun s1 g2 => ?_)
  · refine J_seq ?_
    refine J_draw [] (by kernel_rfl) ?_
    refine JP_take (i := 0) [0, 1, 2, 3] [] rfl (by kernel_rfl) (by kernel_rfl) (by kernel_rfl) rfl rfl (wants_none rfl) rfl (ex_move rfl) ?_
    refine JP_take (i := 1) [0, 1, 2, 3] [] rfl (by kernel_rfl) (by kernel_rfl) (by kernel_rfl) rfl rfl (wants_none rfl) rfl (ex_nilCheck rfl) ?_
    refine JP_take (i := 2) [0, 1, 2, 3] [] rfl (by kernel_rfl) (by kernel_rfl) (by kernel_rfl) rfl rfl (wants_none rfl) rfl (ex_fieldAddr fi_131_1 rfl rfl) ?_
    refine JP_take (i := 3) [0, 1, 2, 3] [] rfl (by kernel_rfl) (by kernel_rfl) (by kernel_rfl) rfl rfl (wants_none rfl) rfl (ex_load_bx 1 ti_3 rfl rfl rfl) ?_
    refine JP_take (i := 4) [0, 1, 2, 3] [] rfl (by kernel_rfl) (by kernel_rfl) (by kernel_rfl) rfl rfl (wants_none rfl) rfl (ex_move rfl) ?_
    refine JP_take (i := 5) [0, 1, 2, 3] [] rfl (by kernel_rfl) (by kernel_rfl) (by kernel_rfl) rfl rfl (wants_none rfl) rfl (ex_nilCheck rfl) ?_
    refine JP_take (i := 6) [0, 1, 2, 3] [] rfl (by kernel_rfl) (by kernel_rfl) (by kernel_rfl) rfl rfl (wants_none rfl) rfl (ex_fieldAddr fi_131_0 rfl rfl) ?_
    refine JP_take (i := 7) [0, 1, 2, 3] [] rfl (by kernel_rfl) (by kernel_rfl) (by kernel_rfl) rfl rfl (wants_none rfl) rfl (ex_load_bx 1 ti_22 rfl rfl rfl) ?_
    refine JP_take (i := 8) [0, 1, 2, 3] [] rfl (by kernel_rfl) (by kernel_rfl) (by kernel_rfl) rfl rfl (wants_none rfl) rfl (ex_len_rd 0 Try.underlying22 rfl rfl) ?_
    refine JP_take (i := 9) [0, 1, 2, 3] [] rfl (by kernel_rfl) (by kernel_rfl) (by kernel_rfl) rfl rfl (wants_none rfl) rfl (ex_lss rfl rfl) ?_
    refine JP_go [] [] rfl rfl rfl (fun _ _ _ => ?_)
    refine JD_done (by kernel_rfl) ?_
    refine N_then ?_
    refine J_if rfl (fun h3 => ?_) (fun h3 => ?_)
    · refine J_draw [] (by kernel_rfl) ?_
      refine JP_take (i := 0) [0, 1, 2, 3] [] rfl (by kernel_rfl) (by kernel_rfl) (by kernel_rfl) rfl rfl (wants_none rfl) rfl (ex_move rfl) ?_
      refine JP_take (i := 1) [0, 1, 2, 3] [] rfl (by kernel_rfl) (by kernel_rfl) (by kernel_rfl) rfl rfl (wants_none rfl) rfl (ex_nilCheck rfl) ?_
      refine JP_take (i := 2) [0, 1, 2, 3] [] rfl (by kernel_rfl) (by kernel_rfl) (by kernel_rfl) rfl rfl (wants_none rfl) rfl (ex_fieldAddr fi_131_0 rfl rfl) ?_
      refine JP_take (i := 3) [0, 1, 2, 3] [] rfl (by kernel_rfl) (by kernel_rfl) (by kernel_rfl) rfl rfl (wants_none rfl) rfl (ex_load_bx 1 ti_22 rfl rfl rfl) ?_
      refine JP_take (i := 4) [0, 1, 2, 3] [] rfl (by kernel_rfl) (by kernel_rfl) (by kernel_rfl) rfl rfl (wants_none rfl) rfl (ex_move rfl) ?_
      refine JP_take (i := 5) [0, 1, 2, 3] [] rfl (by kernel_rfl) (by kernel_rfl) (by kernel_rfl) rfl rfl (wants_none rfl) rfl (ex_nilCheck rfl) ?_
      refine JP_take (i := 6) [0, 1, 2, 3] [] rfl (by kernel_rfl) (by kernel_rfl) (by kernel_rfl) rfl rfl (wants_none rfl) rfl (ex_fieldAddr fi_131_1 rfl rfl) ?_
      refine JP_take (i := 7) [0, 1, 2, 3] [] rfl (by kernel_rfl) (by kernel_rfl) (by kernel_rfl) rfl rfl (wants_none rfl) rfl (ex_load_bx 1 ti_3 rfl rfl rfl) ?_
      refine JP_bnd fun y4 hy5 => ?_
      refine JP_sq (i := 8) [] rfl (by kernel_rfl) (by kernel_rfl) (by kernel_rfl) rfl (wants_none rfl) rfl (sq_index 0 Try.underlying22 ti_5 rfl rfl rfl hy5) (fun q6 => ?_)
      refine JP_sq (i := 9) [] rfl (by kernel_rfl) (by kernel_rfl) (by kernel_rfl) rfl (wants_none rfl) rfl (sq_load_pt_o 0 (opens_ik _) ti_5 rfl rfl) (fun _ => ?_)
      refine JP_take (i := 10) [0, 1, 2, 3, 4] [] rfl (by kernel_rfl) (by kernel_rfl) (by kernel_rfl) rfl rfl (wants_none rfl) rfl (ex_conv_i64 Try.underlying5 Try.underlying3 rfl) ?_
      refine JP_take (i := 11) [0, 1, 2, 3, 4] [] rfl (by kernel_rfl) (by kernel_rfl) (by kernel_rfl) rfl rfl (wants_none rfl) rfl (ex_assign rfl) ?_
      refine JP_go [] [] rfl rfl rfl (fun _ _ _ => ?_)
      refine JD_done (by kernel_rfl) ?_
      exact N_meet' () ⟨rfl, rfl, trivial⟩ [4, 1, 2, 3] rfl rfl
    · refine J_skip ?_
      exact N_meet' () ⟨rfl, rfl, trivial⟩ [3, 0, 1, 2] rfl rfl
  · refine N_then ?_
    refine J_seq ?_
    refine J_region ?_
    refine JL_q (wants_none rfl) rfl (ex_move rfl) ?_
    refine JL_q (wants_none rfl) rfl (ex_nilCheck rfl) ?_
    refine JL_q (wants_none rfl) rfl (ex_fieldAddr fi_131_1 rfl rfl) ?_
    refine JL_q (wants_none rfl) rfl (ex_load_bx 2 ti_3 rfl rfl rfl) ?_
    refine JL_q (wants_none rfl) rfl (ex_add rfl rfl) ?_
    refine JL_q (wants_none rfl) rfl (ex_nilCheck rfl) ?_
    refine JL_q (wants_none rfl) rfl (ex_fieldAddr fi_131_1 rfl rfl) ?_
    refine JL_sk (wants_none rfl) (sk_store_bx' 2 ti_3 rfl rfl (fun w hh => cv_int) rfl rfl rfl rfl) ?_
    refine JL_nil ?_
    refine N_then ?_
    refine J_seq ?_
    refine J_region ?_
    refine JL_q (wants_none rfl) rfl (ex_move rfl) ?_
    refine JL_q (wants_none rfl) rfl (ex_move rfl) ?_
    refine JL_q (wants_none rfl) rfl (ex_nilCheck rfl) ?_
    refine JL_q (wants_none rfl) rfl (ex_fieldAddr fi_131_2 rfl rfl) ?_
    refine JL_q (wants_none rfl) rfl (ex_load_bx 2 ti_129 rfl rfl rfl) ?_
    refine JL_q (wants_none rfl) rfl (ex_mulk rfl rfl) ?_
    refine JL_q (wants_none rfl) rfl (ex_move rfl) ?_
    refine JL_q (wants_none rfl) rfl (ex_conv_ik Try.underlying3 Try.underlying129 rfl) ?_
    refine JL_q (wants_none rfl) rfl (ex_addk rfl rfl) ?_
    refine JL_q (wants_none rfl) rfl (ex_addk rfl rfl) ?_
    refine JL_q (wants_none rfl) rfl (ex_nilCheck rfl) ?_
    refine JL_q (wants_none rfl) rfl (ex_fieldAddr fi_131_2 rfl rfl) ?_
    refine JL_sk (wants_none rfl) (sk_store_bx' 2 ti_129 rfl rfl (fun w hh => cv_int) rfl rfl rfl rfl) ?_
    refine JL_nil ?_
    refine N_then ?_
    refine J_seq ?_
    refine J_seq ?_
    refine J_draw [] (by kernel_rfl) ?_
    refine JP_take (i := 0) [0, 1, 2, 3] [] rfl (by kernel_rfl) (by kernel_rfl) (by kernel_rfl) rfl rfl (wants_none rfl) rfl (ex_move rfl) ?_
    refine JP_take (i := 1) [0, 1, 2, 3] [] rfl (by kernel_rfl) (by kernel_rfl) (by kernel_rfl) rfl rfl (wants_none rfl) rfl (ex_nilCheck rfl) ?_
    refine JP_take (i := 2) [0, 1, 2, 3] [] rfl (by kernel_rfl) (by kernel_rfl) (by kernel_rfl) rfl rfl (wants_none rfl) rfl (ex_fieldAddr fi_131_1 rfl rfl) ?_
    refine JP_take (i := 3) [0, 1, 2, 3] [] rfl (by kernel_rfl) (by kernel_rfl) (by kernel_rfl) rfl rfl (wants_none rfl) rfl (ex_load_bx 2 ti_3 rfl rfl rfl) ?_
    refine JP_take (i := 4) [0, 1, 2, 3] [] rfl (by kernel_rfl) (by kernel_rfl) (by kernel_rfl) rfl rfl (wants_none rfl) rfl (ex_move rfl) ?_
    refine JP_take (i := 5) [0, 1, 2, 3] [] rfl (by kernel_rfl) (by kernel_rfl) (by kernel_rfl) rfl rfl (wants_none rfl) rfl (ex_nilCheck rfl) ?_
    refine JP_take (i := 6) [0, 1, 2, 3] [] rfl (by kernel_rfl) (by kernel_rfl) (by kernel_rfl) rfl rfl (wants_none rfl) rfl (ex_fieldAddr fi_131_0 rfl rfl) ?_
    refine JP_take (i := 7) [0, 1, 2, 3] [] rfl (by kernel_rfl) (by kernel_rfl) (by kernel_rfl) rfl rfl (wants_none rfl) rfl (ex_load_bx 2 ti_22 rfl rfl rfl) ?_
    refine JP_take (i := 8) [0, 1, 2, 3] [] rfl (by kernel_rfl) (by kernel_rfl) (by kernel_rfl) rfl rfl (wants_none rfl) rfl (ex_len_rd 1 Try.underlying22 rfl rfl) ?_
    refine JP_take (i := 9) [0, 1, 2, 3] [] rfl (by kernel_rfl) (by kernel_rfl) (by kernel_rfl) rfl rfl (wants_none rfl) rfl (ex_leq rfl rfl) ?_
    refine JP_go [] [] rfl rfl rfl (fun _ _ _ => ?_)
    refine JD_done (by kernel_rfl) ?_
    refine N_then ?_
    refine J_if rfl (fun h8 => ?_) (fun h8 => ?_)
    · refine J_seq ?_
      refine J_region ?_
      refine JL_q (wants_none rfl) rfl (ex_move rfl) ?_
      refine JL_q (wants_none rfl) rfl (ex_assign rfl) ?_
      refine JL_nil ?_
      refine N_then ?_
      refine J_ret ?_
      refine N_then_ret ?_
      exact N_ret1 rfl (rv_tmp rfl) (fun w hh => ⟨(), rfl, hh.sel [2, 3, 0] rfl⟩)
    · refine J_skip ?_
      refine N_then ?_
      refine J_seq ?_
      refine J_region ?_
      refine JL_q (wants_none rfl) rfl (ex_move rfl) ?_
      refine JL_q (wants_none rfl) rfl (ex_nilCheck rfl) ?_
      refine JL_q (wants_none rfl) rfl (ex_fieldAddr fi_131_2 rfl rfl) ?_
      refine JL_q (wants_none rfl) rfl (ex_load_bx 2 ti_129 rfl rfl rfl) ?_
      refine JL_q (wants_none rfl) rfl (ex_shrk rfl rfl (by decide)) ?_
      refine JL_q (wants_none rfl) rfl (ex_andk rfl rfl) ?_
      refine JL_q (wants_none rfl) rfl (ex_conv_i64 Try.underlying129 Try.underlying2 rfl) ?_
      refine JL_q (wants_none rfl) rfl (ex_assign rfl) ?_
      refine JL_nil ?_
      refine N_then ?_
      refine J_ret ?_
      exact N_ret1 rfl (rv_tmp rfl) (fun w hh => ⟨(), rfl, hh.sel [2, 3, 0] rfl⟩)

set_option maxHeartbeats 40000000 in
theorem c_spec_l00Src_pick (w : World) (b0_ : Nat) (p0 : Gl00Src) (v0_0 : Value) (B_ : List Nat) (hB_ : Ctx.owns [.bx b0_ 131 [v0_0, .int .i64 p0.at_, .int .u64 p0.seed.val]] = B_) (hn_ : PHanded w [.bx b0_ 131 [v0_0, .int .i64 p0.at_, .int .u64 p0.seed.val]]) (hp0_0 : Rd (fun k => k ∈ B_) w v0_0 p0.code) (p1 : Int) (r : (Int) × (Int × (Ik .u64))) (hr : F_spec_l00Src_pick p0 p1 = some r) :
    PtrCon Try.prog 36 [.pointer (some ⟨b0_, 0, none⟩), .int .i64 p1] w B_ (fun x_ : Unit => .int .i64 r.1) (fun x_ => [.bx b0_ 131 [v0_0, .int .i64 r.2.1, .int .u64 r.2.2.val]]) := by
  refine PtrCon_of (v := fun (r : (Int) × (Int × (Ik .u64))) (x_ : Unit) => .int .i64 r.1) (fs := fun r x_ => [.bx b0_ 131 [v0_0, .int .i64 r.2.1, .int .u64 r.2.2.val]]) Try.func36 rfl Try.ntmps36 rfl (show SH nowhere (bare w) w [.rd v0_0 p0.code, .bx b0_ 131 [v0_0, .int .i64 p0.at_, .int .u64 p0.seed.val], .tkn (.int .i64 0) (0 : Int) (restL w B_), rest w B_] from ((SH.begin hB_ hn_).cons_apart hB_ hp0_0)) rfl ?_ hr
  unfold F_spec_l00Src_pick
  refine J_seq ?_
  refine J_region ?_
  refine JL_q (wants_none rfl) rfl (ex_assign rfl) ?_
  refine JL_nil ?_
  refine N_then ?_
  refine J_seq ?_
  refine J_seq ?_
  refine J_region ?_
  refine JL_q (wants_none rfl) rfl (ex_move rfl) ?_
  refine JL_q (wants_none rfl) rfl (ex_leq rfl rfl) ?_
  refine JL_nil ?_
  refine N_then ?_
  refine J_if rfl (fun h1 => ?_) (fun h1 => ?_)
  · refine J_seq ?_
    refine J_region ?_
    refine JL_q (wants_none rfl) rfl (ex_assign rfl) ?_
    refine JL_nil ?_
    refine N_then ?_
    refine J_ret ?_
    refine N_then_ret ?_
    exact N_ret1 rfl (rv_tmp rfl) (fun w hh => ⟨(), rfl, hh.sel [1, 2, 3] rfl⟩)
  · refine J_skip ?_
    refine N_then ?_
    refine J_seq ?_
    refine J_region ?_
    refine JL_q (wants_none rfl) rfl (ex_move rfl) ?_
    refine JL_bnd fun r2 hr3 => ?_
    refine JL_callT (wants_none rfl) rfl Try.call89 rfl (CaT_of [1] [0, 2, 3] rfl rfl (fun _ => rfl) fun w hh => c_spec_l00Src_next w b0_ p0 v0_0 _ rfl (hh.handed [1] rfl rfl rfl rfl) (hh.apart [1] rfl (hh.rd 0 rfl)) _ hr3) (fun _ => ?_)
    refine JL_q (wants_none rfl) rfl (ex_assign rfl) ?_
    refine JL_nil ?_
    refine N_then ?_
    refine J_seq ?_
    refine J_seq ?_
    refine J_region ?_
    refine JL_q (wants_none rfl) rfl (ex_move rfl) ?_
    refine JL_q (wants_none rfl) rfl (ex_gtr rfl rfl) ?_
    refine JL_nil ?_
    refine N_then ?_
    refine J_if rfl (fun h4 => ?_) (fun h4 => ?_)
    · refine J_region ?_
      refine JL_q (wants_none rfl) rfl (ex_move rfl) ?_
      refine JL_q (wants_none rfl) rfl (ex_mul rfl rfl) ?_
      refine JL_q (wants_none rfl) rfl (ex_move rfl) ?_
      refine JL_bnd fun r5 hr6 => ?_
      refine JL_callT (wants_none rfl) rfl Try.call89 rfl (CaT_of [0] [1, 2, 3] rfl rfl (fun _ => rfl) fun w hh => c_spec_l00Src_next w b0_ (⟨p0.code, r2.2.1, r2.2.2⟩ : Gl00Src) v0_0 _ rfl (hh.handed [0] rfl rfl rfl rfl) (hh.apart [0] rfl (hh.rd 1 rfl)) _ hr6) (fun _ => ?_)
      refine JL_q (wants_none rfl) rfl (ex_add rfl rfl) ?_
      refine JL_q (wants_none rfl) rfl (ex_assign rfl) ?_
      refine JL_nil ?_
      refine N_then ?_
      refine J_seq ?_
      refine J_region ?_
      refine JL_q (wants_none rfl) rfl (ex_move rfl) ?_
      refine JL_q (wants_none rfl) rfl (ex_move rfl) ?_
      refine JL_bnd fun u7 hu8 => ?_
      refine JL_q (wants_none rfl) rfl (ex_rem rfl rfl (nz_ne hu8)) ?_
      refine JL_q (wants_none rfl) rfl (ex_assign rfl) ?_
      refine JL_nil ?_
      refine N_then ?_
      refine J_ret ?_
      exact N_ret1 rfl (rv_tmp rfl) (fun w hh => ⟨(), rfl, hh.sel [0, 2, 3] rfl⟩)
    · refine J_skip ?_
      refine N_then ?_
      refine J_seq ?_
      refine J_region ?_
      refine JL_q (wants_none rfl) rfl (ex_move rfl) ?_
      refine JL_q (wants_none rfl) rfl (ex_move rfl) ?_
      refine JL_bnd fun u9 hu10 => ?_
      refine JL_q (wants_none rfl) rfl (ex_rem rfl rfl (nz_ne hu10)) ?_
      refine JL_q (wants_none rfl) rfl (ex_assign rfl) ?_
      refine JL_nil ?_
      refine N_then ?_
      refine J_ret ?_
      exact N_ret1 rfl (rv_tmp rfl) (fun w hh => ⟨(), rfl, hh.sel [0, 2, 3] rfl⟩)

set_option maxHeartbeats 40000000 in
theorem c_spec_l00Src_one (w : World) (b0_ : Nat) (p0 : Gl00Src) (v0_0 : Value) (B_ : List Nat) (hB_ : Ctx.owns [.bx b0_ 131 [v0_0, .int .i64 p0.at_, .int .u64 p0.seed.val]] = B_) (hn_ : PHanded w [.bx b0_ 131 [v0_0, .int .i64 p0.at_, .int .u64 p0.seed.val]]) (hp0_0 : Rd (fun k => k ∈ B_) w v0_0 p0.code) (p1 : Int) (r : (Bool) × (Int × (Ik .u64))) (hr : F_spec_l00Src_one p0 p1 = some r) :
    PtrCon Try.prog 38 [.pointer (some ⟨b0_, 0, none⟩), .int .i64 p1] w B_ (fun x_ : Unit => .bool r.1) (fun x_ => [.bx b0_ 131 [v0_0, .int .i64 r.2.1, .int .u64 r.2.2.val]]) := by
  refine PtrCon_of (v := fun (r : (Bool) × (Int × (Ik .u64))) (x_ : Unit) => .bool r.1) (fs := fun r x_ => [.bx b0_ 131 [v0_0, .int .i64 r.2.1, .int .u64 r.2.2.val]]) Try.func38 rfl Try.ntmps38 rfl (show SH nowhere (bare w) w [.rd v0_0 p0.code, .bx b0_ 131 [v0_0, .int .i64 p0.at_, .int .u64 p0.seed.val], .tkn (.int .i64 0) (0 : Int) (restL w B_), rest w B_] from ((SH.begin hB_ hn_).cons_apart hB_ hp0_0)) rfl ?_ hr
  unfold F_spec_l00Src_one
  refine J_seq ?_
  refine J_region ?_
  refine JL_q (wants_none rfl) rfl (ex_assign rfl) ?_
  refine JL_nil ?_
  refine N_then ?_
  refine J_seq ?_
  refine J_region ?_
  refine JL_q (wants_none rfl) rfl (ex_move rfl) ?_
  refine JL_q (wants_none rfl) rfl (ex_move rfl) ?_
  refine JL_bnd fun r1 hr2 => ?_
  refine JL_callT (wants_none rfl) rfl Try.call36 rfl (CaT_of [1] [0, 2, 3] rfl rfl (fun _ => rfl) fun w hh => c_spec_l00Src_pick w b0_ p0 v0_0 _ rfl (hh.handed [1] rfl rfl rfl rfl) (hh.apart [1] rfl (hh.rd 0 rfl)) _ _ hr2) (fun _ => ?_)
  refine JL_q (wants_none rfl) rfl (ex_eql rfl rfl) ?_
  refine JL_q (wants_none rfl) rfl (ex_assign rfl) ?_
  refine JL_nil ?_
  refine N_then ?_
  refine J_ret ?_
  exact N_ret1 rfl (rv_tmp rfl) (fun w hh => ⟨(), rfl, hh.sel [0, 2, 3] rfl⟩)

set_option maxHeartbeats 40000000 in
theorem c_spec_l05None (A : Nat → Prop) (w : World) (hA : ∀ k, A k → k < w.heap.size)  (r : GRule) (hr : F_spec_l05None  = some r) :
    Con Try.prog 119 [] A w (fun x_ : Unit => .agg #[.int .i64 r.Write, .int .i64 r.Move, .int .i64 r.Next]) (fun x_ => []) := by
  refine Con_of (v := fun (r : GRule) (x_ : Unit) => .agg #[.int .i64 r.Write, .int .i64 r.Move, .int .i64 r.Next]) (fs := fun r x_ => []) Try.func119 rfl Try.ntmps119 rfl (SH.start hA) rfl ?_ hr
  unfold F_spec_l05None
  refine J_seq ?_
  refine J_region ?_
  refine JL_st (wants_none rfl) rfl (st_alloc zi_88 rfl) (fun b1 => ?_)
  refine JL_nil ?_
  refine N_then ?_
  refine J_seq ?_
  refine J_region ?_
  refine JL_q (wants_none rfl) rfl (ex_build si_88 rfl (.cons fi_88_2 rfl rfl .nil) (fun w hh => ⟨cv_int, trivial⟩)) ?_
  refine JL_sk (wants_none rfl) (sk_store_bx' 0 ti_88 rfl rfl (fun w hh => (cv_aggs ⟨cv_int, cv_int, cv_int, trivial⟩)) rfl rfl rfl rfl) ?_
  refine JL_nil ?_
  refine N_then ?_
  refine J_ret ?_
  exact N_ret1 rfl (rv_cell 0 rfl rfl ti_88 rfl) (fun w hh => ⟨(), rfl, hh.sel [] rfl⟩)

set_option maxHeartbeats 40000000 in
theorem c_spec_l05DrawSize (w : World) (b0_ : Nat) (p0 : Gl00Src) (v0_0 : Value) (B_ : List Nat) (hB_ : Ctx.owns [.bx b0_ 131 [v0_0, .int .i64 p0.at_, .int .u64 p0.seed.val]] = B_) (hn_ : PHanded w [.bx b0_ 131 [v0_0, .int .i64 p0.at_, .int .u64 p0.seed.val]]) (hp0_0 : Rd (fun k => k ∈ B_) w v0_0 p0.code) (p1 : Int) (p2 : Int) (r : (GMachine) × (Int × (Ik .u64))) (hr : F_spec_l05DrawSize p0 p1 p2 = some r) :
    PtrCon Try.prog 65 [.pointer (some ⟨b0_, 0, none⟩), .int .i64 p1, .int .i64 p2] w B_ (fun x_ : Value => .agg #[.int .i64 r.1.Symbols, .int .i64 r.1.States, x_]) (fun x_ => [.ow 88 x_ r.1.Rules, .bx b0_ 131 [v0_0, .int .i64 r.2.1, .int .u64 r.2.2.val]]) := by
  refine PtrCon_of (v := fun (r : (GMachine) × (Int × (Ik .u64))) (x_ : Value) => .agg #[.int .i64 r.1.Symbols, .int .i64 r.1.States, x_]) (fs := fun r x_ => [.ow 88 x_ r.1.Rules, .bx b0_ 131 [v0_0, .int .i64 r.2.1, .int .u64 r.2.2.val]]) Try.func65 rfl Try.ntmps65 rfl (show SH nowhere (bare w) w [.rd v0_0 p0.code, .bx b0_ 131 [v0_0, .int .i64 p0.at_, .int .u64 p0.seed.val], .tkn (.int .i64 0) (0 : Int) (restL w B_), rest w B_] from ((SH.begin hB_ hn_).cons_apart hB_ hp0_0)) rfl ?_ hr
  unfold F_spec_l05DrawSize
  refine J_seq ?_
  refine J_region ?_
  refine JL_st (wants_none rfl) rfl (st_alloc zi_26 rfl) (fun b1 => ?_)
  refine JL_nil ?_
  refine N_then ?_
  refine J_seq ?_
  refine J_region ?_
  refine JL_q (wants_none rfl) rfl (ex_move rfl) ?_
  refine JL_q (wants_none rfl) rfl (ex_move rfl) ?_
  refine JL_q (wants_none rfl) rfl (ex_build si_26 rfl (.cons fi_26_0 rfl rfl (.cons fi_26_1 rfl rfl .nil)) (fun w hh => ⟨cv_int, cv_int, trivial⟩)) ?_
  refine JL_st (wants_none rfl) rfl (st_alloc zi_26 rfl) (fun b2 => ?_)
  refine JL_sk (wants_none rfl) (sk_store_bx' 0 ti_26 rfl rfl (fun w hh => (cv_aggs ⟨cv_int, cv_int, cv_slice, trivial⟩)) rfl rfl rfl rfl) ?_
  refine JL_nil ?_
  refine N_then ?_
  refine J_seq ?_
  refine J_seq ?_
  refine J_region ?_
  refine JL_q (wants_none rfl) rfl (ex_move rfl) ?_
  refine JL_q (wants_none rfl) rfl (ex_move rfl) ?_
  refine JL_q (wants_none rfl) rfl (ex_mul rfl rfl) ?_
  refine JL_q (wants_none rfl) rfl (ex_assign rfl) ?_
  refine JL_nil ?_
  refine N_then ?_
  refine J_ctx (fun w hh => SH.ow_nil (α := GRule) 88 hh) ?_
  refine J_loop' (S := Int × (Ik .u64) × (List GRule) × Int) (G := Value) (F_spec_l05DrawSize_L1 p0 p1 p2) (fun s3 g4 => [(0, .pointer (some ⟨b0_, 0, none⟩)), (1, .int .i64 p1), (2, .int .i64 p2), (6, .pointer (some ⟨b1, 0, none⟩)), (7, .pointer (some ⟨b2, 0, none⟩)), (8, .int .i64 s3.2.2.2)]) (fun s3 g4 => [rest w B_, .rd v0_0 p0.code, .bx b0_ 131 [v0_0, .int .i64 s3.1, .int .u64 s3.2.1.val], .bx b1 26 [.int .i64 0, .int .i64 0, .slice none 0 0], .ow 88 g4 s3.2.2.1, .bx b2 26 [.int .i64 p1, .int .i64 p2, g4], .tkn (.int .i64 0) (0 : Int) (restL w B_)]) (p0.at_, p0.seed, ([] : (List GRule)), (w64 (p1 * p2))) (.slice none 0 0 : Value) ⟨rfl, rfl, rfl, rfl, rfl, rfl, trivial⟩ [6, 3, 4, 2, 0, 1, 5] rfl rfl (fun s3 g4 => ?_) (fun s3 g4 => ?_)
  · unfold F_spec_l05DrawSize_L1
    refine J_seq ?_
    refine J_seq ?_
    refine J_region ?_
    refine JL_q (wants_none rfl) rfl (ex_move rfl) ?_
    refine JL_q (wants_none rfl) rfl (ex_gtr rfl rfl) ?_
    refine JL_nil ?_
    refine N_then ?_
    refine J_if rfl (fun h5 => ?_) (fun h5 => ?_)
    · refine J_skip ?_
      refine N_then ?_
      refine J_seq ?_
      refine J_block ?_
      refine J_seq ?_
      refine J_region ?_
      refine JL_q (wants_none rfl) rfl (ex_move rfl) ?_
      refine JL_q (wants_none rfl) rfl (ex_move rfl) ?_
      refine JL_bnd fun r6 hr7 => ?_
      refine JL_callT (wants_none rfl) rfl Try.call36 rfl (CaT_of [2] [0, 1, 3, 4, 5, 6] rfl rfl (fun _ => rfl) fun w hh => c_spec_l00Src_pick w b0_ (⟨p0.code, s3.1, s3.2.1⟩ : Gl00Src) v0_0 _ rfl (hh.handed [2] rfl rfl rfl rfl) (hh.apart [2] rfl (hh.rd 1 rfl)) _ _ hr7) (fun _ => ?_)
      refine JL_q (wants_none rfl) rfl (ex_move rfl) ?_
      refine JL_bnd fun r8 hr9 => ?_
      refine JL_callT (wants_none rfl) rfl Try.call36 rfl (CaT_of [0] [1, 2, 3, 4, 5, 6] rfl rfl (fun _ => rfl) fun w hh => c_spec_l00Src_pick w b0_ (⟨p0.code, r6.2.1, r6.2.2⟩ : Gl00Src) v0_0 _ rfl (hh.handed [0] rfl rfl rfl rfl) (hh.apart [0] rfl (hh.rd 2 rfl)) _ _ hr9) (fun _ => ?_)
      refine JL_q (wants_none rfl) rfl (ex_mul rfl rfl) ?_
      refine JL_q (wants_none rfl) rfl (ex_sub rfl rfl) ?_
      refine JL_q (wants_none rfl) rfl (ex_move rfl) ?_
      refine JL_q (wants_none rfl) rfl (ex_move rfl) ?_
      refine JL_bnd fun r10 hr11 => ?_
      refine JL_callT (wants_none rfl) rfl Try.call36 rfl (CaT_of [0] [1, 2, 3, 4, 5, 6] rfl rfl (fun _ => rfl) fun w hh => c_spec_l00Src_pick w b0_ (⟨p0.code, r8.2.1, r8.2.2⟩ : Gl00Src) v0_0 _ rfl (hh.handed [0] rfl rfl rfl rfl) (hh.apart [0] rfl (hh.rd 2 rfl)) _ _ hr11) (fun _ => ?_)
      refine JL_q (wants_none rfl) rfl (ex_build si_88 rfl (.cons fi_88_0 rfl rfl (.cons fi_88_1 rfl rfl (.cons fi_88_2 rfl rfl .nil))) (fun w hh => ⟨cv_int, cv_int, cv_int, trivial⟩)) ?_
      refine JL_st (wants_none rfl) rfl (st_alloc zi_88 rfl) (fun b12 => ?_)
      refine JL_sk (wants_none rfl) (sk_store_bx' 0 ti_88 rfl rfl (fun w hh => (cv_aggs ⟨cv_int, cv_int, cv_int, trivial⟩)) rfl rfl rfl rfl) ?_
      refine JL_nil ?_
      refine N_then ?_
      refine J_seq ?_
      refine J_seq ?_
      refine J_region ?_
      refine JL_q (wants_none rfl) rfl (ex_move rfl) ?_
      refine JL_bnd fun r13 hr14 => ?_
      refine JL_callT (wants_none rfl) rfl Try.call38 rfl (CaT_of [1] [0, 2, 3, 4, 5, 6, 7] rfl rfl (fun _ => rfl) fun w hh => c_spec_l00Src_one w b0_ (⟨p0.code, r10.2.1, r10.2.2⟩ : Gl00Src) v0_0 _ rfl (hh.handed [1] rfl rfl rfl rfl) (hh.apart [1] rfl (hh.rd 3 rfl)) _ _ hr14) (fun _ => ?_)
      refine JL_nil ?_
      refine N_then ?_
      refine J_if rfl (fun h15 => ?_) (fun h15 => ?_)
      · refine J_region ?_
        refine JL_bnd fun r16 hr17 => ?_
        refine JL_call (wants_none rfl) rfl Try.call119 rfl (Ca_of0 fun w hh => c_spec_l05None _ w (fun _ hk => hk.elim)  _ hr17) (fun _ => ?_)
        refine JL_sk (wants_none rfl) (sk_store_bx' 1 ti_88 rfl rfl (fun w hh => (cv_aggs ⟨cv_int, cv_int, cv_int, trivial⟩)) rfl rfl rfl rfl) ?_
        refine JL_nil ?_
        refine N_then ?_
        refine J_region ?_
        refine JL_q (wants_none rfl) rfl (ex_fieldAddr fi_26_2 rfl rfl) ?_
        refine JL_q (wants_none rfl) rfl (ex_load_bx 6 ti_24 rfl rfl rfl) ?_
        refine JL_q (wants_none rfl) rfl (ex_load_bx_agg 1 ti_88 rfl rfl rfl rfl) ?_
        refine JL_st (wants_none rfl) rfl (st_buildSlice (vs := [.agg #[.int .i64 r16.Write, .int .i64 r16.Move, .int .i64 r16.Next]]) ([r16] : List GRule) Try.underlying24 ti_88 zi_88 rfl rfl rfl (fun w hh => ⟨(GRule.rdmk (Rd.mk_int _ _ _) (Rd.mk_int _ _ _) (Rd.mk_int _ _ _)), trivial⟩)) (fun b18 => ?_)
        refine JL_bnd fun z19 hz20 => ?_
        refine JL_st (wants_none rfl) rfl (st_append 6 Try.underlying24 ti_88 zi_88 rfl bi_88 rfl rfl rfl rfl (fun w hh => hh.src_ow 0 rfl) hz20) (fun v21 => ?_)
        refine JL_q (wants_none rfl) rfl (ex_fieldAddr fi_26_2 rfl rfl) ?_
        refine JL_sk (wants_none rfl) (sk_store_bx' 7 ti_24 rfl rfl (fun w hh => (hh.cv_ow 6 rfl)) rfl rfl rfl rfl) ?_
        refine JL_nil ?_
        refine N_block ?_
        refine N_then ?_
        refine J_region ?_
        refine JL_q (wants_none rfl) rfl (ex_move rfl) ?_
        refine JL_q (wants_none rfl) rfl (ex_sub rfl rfl) ?_
        refine JL_q (wants_none rfl) rfl (ex_assign rfl) ?_
        refine JL_nil ?_
        exact N_next' v21 ⟨rfl, rfl, rfl, rfl, rfl, rfl, trivial⟩ [3, 4, 1, 5, 6, 7, 8] rfl rfl
      · refine J_skip ?_
        refine N_then ?_
        refine J_region ?_
        refine JL_q (wants_none rfl) rfl (ex_fieldAddr fi_26_2 rfl rfl) ?_
        refine JL_q (wants_none rfl) rfl (ex_load_bx 6 ti_24 rfl rfl rfl) ?_
        refine JL_q (wants_none rfl) rfl (ex_load_bx_agg 1 ti_88 rfl rfl rfl rfl) ?_
        refine JL_st (wants_none rfl) rfl (st_buildSlice (vs := [.agg #[.int .i64 r6.1, .int .i64 (w64 ((w64 (2 * r8.1)) - 1)), .int .i64 r10.1]]) ([(⟨r6.1, (w64 ((w64 (2 * r8.1)) - 1)), r10.1⟩ : GRule)] : List GRule) Try.underlying24 ti_88 zi_88 rfl rfl rfl (fun w hh => ⟨(GRule.rdmk (Rd.mk_int _ _ _) (Rd.mk_int _ _ _) (Rd.mk_int _ _ _)), trivial⟩)) (fun b22 => ?_)
        refine JL_bnd fun z23 hz24 => ?_
        refine JL_st (wants_none rfl) rfl (st_append 6 Try.underlying24 ti_88 zi_88 rfl bi_88 rfl rfl rfl rfl (fun w hh => hh.src_ow 0 rfl) hz24) (fun v25 => ?_)
        refine JL_q (wants_none rfl) rfl (ex_fieldAddr fi_26_2 rfl rfl) ?_
        refine JL_sk (wants_none rfl) (sk_store_bx' 7 ti_24 rfl rfl (fun w hh => (hh.cv_ow 6 rfl)) rfl rfl rfl rfl) ?_
        refine JL_nil ?_
        refine N_block ?_
        refine N_then ?_
        refine J_region ?_
        refine JL_q (wants_none rfl) rfl (ex_move rfl) ?_
        refine JL_q (wants_none rfl) rfl (ex_sub rfl rfl) ?_
        refine JL_q (wants_none rfl) rfl (ex_assign rfl) ?_
        refine JL_nil ?_
        exact N_next' v25 ⟨rfl, rfl, rfl, rfl, rfl, rfl, trivial⟩ [3, 4, 1, 5, 6, 7, 8] rfl rfl
    · refine J_exit ?_
      refine N_then_exit ?_
      exact N_break' g4 ⟨rfl, rfl, rfl, rfl, rfl, rfl, trivial⟩ [0, 1, 2, 3, 4, 5, 6] rfl rfl
  · refine N_then ?_
    refine J_seq ?_
    refine J_region ?_
    refine JL_q (wants_none rfl) rfl (ex_load_bx_agg 5 ti_26 rfl rfl rfl rfl) ?_
    refine JL_sk (wants_none rfl) (sk_store_bx' 3 ti_26 rfl rfl (fun w hh => (cv_aggs ⟨cv_int, cv_int, (hh.cv_ow 4 rfl), trivial⟩)) rfl rfl rfl rfl) ?_
    refine JL_nil ?_
    refine N_then ?_
    refine J_ret ?_
    exact N_ret1 rfl (rv_cell 3 rfl rfl ti_26 rfl) (fun w hh => ⟨g4, rfl, hh.sel [4, 2, 6, 0] rfl⟩)

set_option maxHeartbeats 40000000 in
theorem c_spec_l00Own (A : Nat → Prop) (w : World) (hA : ∀ k, A k → k < w.heap.size) (v0_ : Value) (p0 : (List Int)) (hp0 : Rd A w v0_ p0) (r : (List Int)) (hr : F_spec_l00Own p0 = some r) :
    Con Try.prog 120 [v0_] A w (fun x_ : Value => x_) (fun x_ => [.ow 2 x_ r]) := by
  refine Con_of (v := fun (r : (List Int)) (x_ : Value) => x_) (fs := fun r x_ => [.ow 2 x_ r]) Try.func120 rfl Try.ntmps120 rfl ((SH.start hA).start_rd rfl hp0) rfl ?_ hr
  unfold F_spec_l00Own
  refine J_seq ?_
  refine J_region ?_
  refine JL_q (wants_none rfl) rfl (ex_assign rfl) ?_
  refine JL_nil ?_
  refine N_then ?_
  refine J_seq ?_
  refine J_region ?_
  refine JL_st (wants_none rfl) rfl (st_buildSlice (vs := []) ([] : List Int) Try.underlying27 ti_2 zi_2 rfl rfl rfl (fun w hh => trivial)) (fun b1 => ?_)
  refine JL_q (wants_none rfl) rfl (ex_move rfl) ?_
  refine JL_bnd fun z2 hz3 => ?_
  refine JL_st (wants_none rfl) rfl (st_append 0 Try.underlying27 ti_2 zi_2 rfl bi_2 rfl rfl rfl rfl (fun w hh => hh.src_rd 1 rfl) hz3) (fun v4 => ?_)
  refine JL_q (wants_none rfl) rfl (ex_assign rfl) ?_
  refine JL_nil ?_
  refine N_then ?_
  refine J_ret ?_
  exact N_ret1 rfl (rv_tmp rfl) (fun w hh => ⟨v4, rfl, hh.sel [0] rfl⟩)

set_option maxHeartbeats 40000000 in
theorem c_spec_l05Trim (A : Nat → Prop) (w : World) (hA : ∀ k, A k → k < w.heap.size) (v0_ : Value) (p0 : (List Int)) (hp0 : Rd A w v0_ p0) (r : (List Int)) (hr : F_spec_l05Trim p0 = some r) :
    Con Try.prog 66 [v0_] A w (fun x_ : Value => x_) (fun x_ => [.ow 2 x_ r]) := by
  refine Con_of (v := fun (r : (List Int)) (x_ : Value) => x_) (fs := fun r x_ => [.ow 2 x_ r]) Try.func66 rfl Try.ntmps66 rfl ((SH.start hA).start_rd rfl hp0) rfl ?_ hr
  unfold F_spec_l05Trim
  refine J_seq ?_
  refine J_region ?_
  refine JL_q (wants_none rfl) rfl (ex_assign rfl) ?_
  refine JL_nil ?_
  refine N_then ?_
  refine J_seq ?_
  refine J_region ?_
  refine JL_q (wants_none rfl) rfl (ex_move rfl) ?_
  refine JL_q (wants_none rfl) rfl (ex_len_rd 0 Try.underlying27 rfl rfl) ?_
  refine JL_q (wants_none rfl) rfl (ex_assign rfl) ?_
  refine JL_nil ?_
  refine N_then ?_
  refine J_seq ?_
  refine J_loop' (S := Int) (G := Unit) (F_spec_l05Trim_L1 p0) (fun s1 _ => [(0, v0_), (3, .int .i64 s1)]) (fun s1 _ => [.rd v0_ p0]) (p0.length : Int) () ⟨rfl, rfl, trivial⟩ [0] rfl rfl (fun s1 g2 => ?_) (fun s1 g2 => ?_)
  · unfold F_spec_l05Trim_L1
    refine J_seq ?_
    refine J_seq ?_
    refine J_region ?_
    refine JL_q (wants_none rfl) rfl (ex_move rfl) ?_
    refine JL_q (wants_none rfl) rfl (ex_gtr rfl rfl) ?_
    refine JL_q (wants_none rfl) rfl (ex_move rfl) ?_
    refine JL_cond (fun h3 => ?_) (fun h3 => ?_)
    · refine JL_q (wants_some rfl rfl rfl h3) rfl (ex_move rfl) ?_
      refine JL_q (wants_some rfl rfl rfl h3) rfl (ex_move rfl) ?_
      refine JL_q (wants_some rfl rfl rfl h3) rfl (ex_sub rfl rfl) ?_
      refine JL_bnd fun y4 hy5 => ?_
      refine JL_st (wants_some rfl rfl rfl h3) rfl (st_index 0 Try.underlying27 ti_2 rfl rfl rfl hy5) (fun q6 => ?_)
      refine JL_st (wants_some rfl rfl rfl h3) rfl (st_load_pt_o 0 (opens_int _) ti_2 rfl rfl) (fun _ => ?_)
      refine JL_q (wants_some rfl rfl rfl h3) rfl (ex_eql rfl rfl) ?_
      refine JL_q (wants_none rfl) rfl (ex_pick_true rfl h3 rfl) ?_
      refine JL_nil ?_
      refine N_then ?_
      refine J_if rfl (fun h8 => ?_) (fun h8 => ?_)
      · refine J_skip ?_
        refine N_then ?_
        refine J_block ?_
        refine J_region ?_
        refine JL_q (wants_none rfl) rfl (ex_move rfl) ?_
        refine JL_q (wants_none rfl) rfl (ex_sub rfl rfl) ?_
        refine JL_q (wants_none rfl) rfl (ex_assign rfl) ?_
        refine JL_nil ?_
        refine N_block ?_
        exact N_next' () ⟨rfl, rfl, trivial⟩ [1] rfl rfl
      · refine J_exit ?_
        refine N_then_exit ?_
        exact N_break' () ⟨rfl, rfl, trivial⟩ [1] rfl rfl
    · refine JL_passed rfl rfl rfl h3 ?_
      refine JL_passed rfl rfl rfl h3 ?_
      refine JL_passed rfl rfl rfl h3 ?_
      refine JL_passed rfl rfl rfl h3 ?_
      refine JL_passed rfl rfl rfl h3 ?_
      refine JL_passed rfl rfl rfl h3 ?_
      refine JL_q (wants_none rfl) rfl (ex_pick_false rfl h3 rfl) ?_
      refine JL_nil ?_
      refine N_then ?_
      refine J_if_false rfl rfl ?_
      refine J_exit ?_
      refine N_then_exit ?_
      exact N_break' () ⟨rfl, rfl, trivial⟩ [0] rfl rfl
  · refine N_then ?_
    refine J_seq ?_
    refine J_region ?_
    refine JL_q (wants_none rfl) rfl (ex_move rfl) ?_
    refine JL_q (wants_none rfl) rfl (ex_move rfl) ?_
    refine JL_bnd fun z9 hz10 => ?_
    refine JL_st (wants_none rfl) rfl (st_slice 0 Try.underlying27 ti_2 rfl rfl rfl rfl hz10) (fun v11 => ?_)
    refine JL_bnd fun r12 hr13 => ?_
    refine JL_call (wants_none rfl) rfl Try.call120 rfl (Ca_self (fun _ => rfl) fun w hh => c_spec_l00Own _ w (fun _ hk => hk.elim) _ _ (hh.rd0 0 rfl) _ hr13) (fun x14 => ?_)
    refine JL_q (wants_none rfl) rfl (ex_assign rfl) ?_
    refine JL_nil ?_
    refine N_then ?_
    refine J_ret ?_
    exact N_ret1 rfl (rv_tmp rfl) (fun w hh => ⟨x14, rfl, hh.sel [0] rfl⟩)

set_option maxHeartbeats 40000000 in
theorem c_spec_R8Row (A : Nat → Prop) (w : World) (hA : ∀ k, A k → k < w.heap.size) (v0_ : Value) (p0 : (List (Ik .u8))) (hp0 : Rd A w v0_ p0) (r : GMachine × GConfig × Int × Int) (hr : F_spec_R8Row p0 = some r) :
    Con Try.prog 22 [v0_] A w (fun x_ : Value × Value × Value => .tuple #[.agg #[.int .i64 r.1.Symbols, .int .i64 r.1.States, x_.1], .agg #[.int .i64 r.2.1.State, x_.2.1, x_.2.2], .int .i64 r.2.2.1, .int .i64 r.2.2.2]) (fun x_ => [.ow 88 x_.1 r.1.Rules, .ow 2 x_.2.1 r.2.1.Left, .ow 2 x_.2.2 r.2.1.Right]) := by
  refine Con_of (v := fun (r : GMachine × GConfig × Int × Int) (x_ : Value × Value × Value) => .tuple #[.agg #[.int .i64 r.1.Symbols, .int .i64 r.1.States, x_.1], .agg #[.int .i64 r.2.1.State, x_.2.1, x_.2.2], .int .i64 r.2.2.1, .int .i64 r.2.2.2]) (fs := fun r x_ => [.ow 88 x_.1 r.1.Rules, .ow 2 x_.2.1 r.2.1.Left, .ow 2 x_.2.2 r.2.1.Right]) Try.func22 rfl Try.ntmps22 rfl ((SH.start hA).start_rd rfl hp0) rfl ?_ hr
  unfold F_spec_R8Row
  refine J_seq ?_
  refine J_region ?_
  refine JL_st (wants_none rfl) rfl (st_alloc zi_26 rfl) (fun b1 => ?_)
  refine JL_st (wants_none rfl) rfl (st_alloc zi_29 rfl) (fun b2 => ?_)
  refine JL_q (wants_none rfl) rfl (ex_assign rfl) ?_
  refine JL_q (wants_none rfl) rfl (ex_assign rfl) ?_
  refine JL_nil ?_
  refine N_then ?_
  refine J_seq ?_
  refine J_region ?_
  refine JL_q (wants_none rfl) rfl (ex_move rfl) ?_
  refine JL_bnd fun r3 hr4 => ?_
  refine JL_call (wants_none rfl) rfl Try.call34 rfl (Ca_self (fun _ => rfl) fun w hh => c_spec_l00From _ w (fun _ hk => hk.elim) _ _ (hh.rd0 2 rfl) _ hr4) (fun x5 => ?_)
  obtain ⟨x5_0, x5_1⟩ := x5
  refine JL_ctx (fun w hh => hh.sub_rd 4 rfl (hh.pr 0 rfl)) ?_
  refine JL_q (wants_none rfl) rfl (ex_assign rfl) ?_
  refine JL_nil ?_
  refine N_then ?_
  refine J_seq ?_
  refine J_region ?_
  refine JL_q (wants_none rfl) rfl (ex_move rfl) ?_
  refine JL_q (wants_none rfl) rfl (ex_move rfl) ?_
  refine JL_bnd fun r6 hr7 => ?_
  refine JL_callT (wants_none rfl) rfl Try.call36 rfl (CaT_of [2] [0, 1, 3, 4, 5] rfl rfl (fun _ => rfl) fun w hh => c_spec_l00Src_pick w x5_1 (⟨r3.1, r3.2.1, r3.2.2⟩ : Gl00Src) x5_0 _ rfl (hh.handed [2] rfl rfl rfl rfl) (hh.apart [2] rfl (hh.rd 0 rfl)) _ _ hr7) (fun _ => ?_)
  refine JL_q (wants_none rfl) rfl (ex_add rfl rfl) ?_
  refine JL_bnd fun r8 hr9 => ?_
  refine JL_callT (wants_none rfl) rfl Try.call65 rfl (CaT_of [0] [1, 2, 3, 4, 5] rfl rfl (fun _ => rfl) fun w hh => c_spec_l05DrawSize w x5_1 (⟨r3.1, r6.2.1, r6.2.2⟩ : Gl00Src) x5_0 _ rfl (hh.handed [0] rfl rfl rfl rfl) (hh.apart [0] rfl (hh.rd 1 rfl)) _ _ _ hr9) (fun x10 => ?_)
  refine JL_st (wants_none rfl) rfl (st_alloc zi_26 rfl) (fun b11 => ?_)
  refine JL_sk (wants_none rfl) (sk_store_bx' 0 ti_26 rfl rfl (fun w hh => (cv_aggs ⟨cv_int, cv_int, (hh.cv_ow 1 rfl), trivial⟩)) rfl rfl rfl rfl) ?_
  refine JL_nil ?_
  refine N_then ?_
  refine J_seq ?_
  refine J_region ?_
  refine JL_q (wants_none rfl) rfl (ex_move rfl) ?_
  refine JL_q (wants_none rfl) rfl (ex_fieldAddr fi_26_1 rfl rfl) ?_
  refine JL_q (wants_none rfl) rfl (ex_load_bx 0 ti_2 rfl rfl rfl) ?_
  refine JL_bnd fun r12 hr13 => ?_
  refine JL_callT (wants_none rfl) rfl Try.call36 rfl (CaT_of [2] [0, 1, 3, 4, 5, 6, 7] rfl rfl (fun _ => rfl) fun w hh => c_spec_l00Src_pick w x5_1 (⟨r3.1, r8.2.1, r8.2.2⟩ : Gl00Src) x5_0 _ rfl (hh.handed [2] rfl rfl rfl rfl) (hh.apart [2] rfl (hh.rd 3 rfl)) _ _ hr13) (fun _ => ?_)
  refine JL_q (wants_none rfl) rfl (ex_build si_29 rfl (.cons fi_29_0 rfl rfl .nil) (fun w hh => ⟨cv_int, trivial⟩)) ?_
  refine JL_st (wants_none rfl) rfl (st_alloc zi_29 rfl) (fun b14 => ?_)
  refine JL_sk (wants_none rfl) (sk_store_bx' 0 ti_29 rfl rfl (fun w hh => (cv_aggs ⟨cv_int, cv_slice, cv_slice, trivial⟩)) rfl rfl rfl rfl) ?_
  refine JL_nil ?_
  refine N_then ?_
  refine J_seq ?_
  refine J_seq ?_
  refine J_region ?_
  refine JL_q (wants_none rfl) rfl (ex_move rfl) ?_
  refine JL_bnd fun r15 hr16 => ?_
  refine JL_callT (wants_none rfl) rfl Try.call36 rfl (CaT_of [1] [0, 2, 3, 4, 5, 6, 7, 8] rfl rfl (fun _ => rfl) fun w hh => c_spec_l00Src_pick w x5_1 (⟨r3.1, r12.2.1, r12.2.2⟩ : Gl00Src) x5_0 _ rfl (hh.handed [1] rfl rfl rfl rfl) (hh.apart [1] rfl (hh.rd 4 rfl)) _ _ hr16) (fun _ => ?_)
  refine JL_q (wants_none rfl) rfl (ex_assign rfl) ?_
  refine JL_nil ?_
  refine N_then ?_
  refine J_ctx (fun w hh => SH.ow_nil (α := Int) 2 hh) ?_
  refine J_loop' (S := Int × (Ik .u64) × (List Int) × Int) (G := Value) (F_spec_R8Row_L1 r3) (fun s17 g18 => [(2, .pointer (some ⟨b1, 0, none⟩)), (3, .pointer (some ⟨b2, 0, none⟩)), (6, .pointer (some ⟨x5_1, 0, none⟩)), (7, .pointer (some ⟨b11, 0, none⟩)), (8, .pointer (some ⟨b14, 0, none⟩)), (9, .int .i64 s17.2.2.2)]) (fun s17 g18 => [.bx b1 26 [.int .i64 0, .int .i64 0, .slice none 0 0], .bx b2 29 [.int .i64 0, .slice none 0 0, .slice none 0 0], .rd x5_0 r3.1, .pr (Sub v0_ p0 x5_0 r3.1), .bx x5_1 131 [x5_0, .int .i64 s17.1, .int .u64 s17.2.1.val], .ow 88 x10 r8.1.Rules, .bx b11 26 [.int .i64 r8.1.Symbols, .int .i64 r8.1.States, x10], .ow 2 g18 s17.2.2.1, .bx b14 29 [.int .i64 r12.1, g18, .slice none 0 0]]) (r15.2.1, r15.2.2, ([] : (List Int)), r15.1) (.slice none 0 0 : Value) ⟨rfl, rfl, rfl, rfl, rfl, rfl, trivial⟩ [8, 7, 5, 6, 1, 4, 3, 0, 2] rfl rfl (fun s17 g18 => ?_) (fun s17 g18 => ?_)
  · unfold F_spec_R8Row_L1
    refine J_seq ?_
    refine J_seq ?_
    refine J_region ?_
    refine JL_q (wants_none rfl) rfl (ex_move rfl) ?_
    refine JL_q (wants_none rfl) rfl (ex_gtr rfl rfl) ?_
    refine JL_nil ?_
    refine N_then ?_
    refine J_if rfl (fun h19 => ?_) (fun h19 => ?_)
    · refine J_skip ?_
      refine N_then ?_
      refine J_seq ?_
      refine J_block ?_
      refine J_draw [4, 7, 8] (by kernel_rfl) ?_
      refine JP_take (i := 0) [0, 1, 2, 3, 5, 6] [4, 7, 8] rfl (by kernel_rfl) (by kernel_rfl) (by kernel_rfl) rfl rfl (wants_none rfl) rfl (ex_fieldAddr fi_29_1 rfl rfl) ?_
      refine JP_take (i := 2) [0, 1, 2, 3, 5, 6] [4, 7, 8] rfl (by kernel_rfl) (by kernel_rfl) (by kernel_rfl) rfl rfl (wants_none rfl) rfl (ex_move rfl) ?_
      refine JP_go [0, 1, 2, 3, 5, 6] [4, 7, 8] rfl rfl rfl (fun w21 h1_22 hp20 => ?_)
      refine JD_bnd fun r23 hr24 => ?_
      refine JD_two (i := 1) (j := 3) (by kernel_rfl) ?_ ?_
      · refine JO_q rfl (wants_none rfl) rfl (ex_load_bx 8 ti_27 rfl rfl rfl) ?_
        refine JD_one (i := 3) (by kernel_rfl) ?_
        refine JO_callT rfl (wants_none rfl) rfl Try.call36 rfl (CaT_of [4] [0, 1, 2, 3, 5, 6, 7, 8] rfl rfl (fun _ => rfl) fun w hh => c_spec_l00Src_pick w x5_1 (⟨r3.1, s17.1, s17.2.1⟩ : Gl00Src) x5_0 _ rfl (hh.handed [4] rfl rfl rfl rfl) (hh.apart [4] rfl (hh.rd 2 rfl)) _ _ hr24) (sub_bx 0 rfl) (fun _ => ?_)
        refine JD_one (i := 4) (by kernel_rfl) ?_
        refine JO_st rfl (wants_none rfl) rfl (st_buildSlice (vs := [.int .i64 r23.1]) ([r23.1] : List Int) Try.underlying27 ti_2 zi_2 rfl rfl rfl (fun w hh => ⟨(Rd.mk_int _ _ _), trivial⟩)) (fun _ hk => nomatch hk) (fun b25 => ?_)
        refine JD_bnd fun z26 hz27 => ?_
        refine JD_one (i := 5) (by kernel_rfl) ?_
        refine JO_st rfl (wants_none rfl) rfl (st_append 8 Try.underlying27 ti_2 zi_2 rfl bi_2 rfl rfl rfl rfl (fun w hh => hh.src_ow 0 rfl) hz27) (sub_ow 1 rfl) (fun v28 => ?_)
        refine JD_take (i := 6) hp20 rfl (by kernel_rfl) (by kernel_rfl) (by kernel_rfl) (wants_none rfl) rfl (ex_fieldAddr fi_29_1 rfl rfl) ?_
        refine JD_one (i := 7) (by kernel_rfl) ?_
        refine JO_sk rfl (wants_none rfl) (sk_store_bx' 9 ti_27 rfl rfl (fun w hh => (hh.cv_ow 8 rfl)) rfl rfl rfl rfl) (sub_bx 2 rfl) ?_
        refine JD_done (by kernel_rfl) ?_
        refine N_block ?_
        refine N_then ?_
        refine J_region ?_
        refine JL_q (wants_none rfl) rfl (ex_move rfl) ?_
        refine JL_q (wants_none rfl) rfl (ex_sub rfl rfl) ?_
        refine JL_q (wants_none rfl) rfl (ex_assign rfl) ?_
        refine JL_nil ?_
        exact N_next' v28 ⟨rfl, rfl, rfl, rfl, rfl, rfl, trivial⟩ [2, 3, 4, 5, 1, 6, 7, 8, 9] rfl rfl
      · refine JO_callT rfl (wants_none rfl) rfl Try.call36 rfl (CaT_of [4] [0, 1, 2, 3, 5, 6, 7, 8] rfl rfl (fun _ => rfl) fun w hh => c_spec_l00Src_pick w x5_1 (⟨r3.1, s17.1, s17.2.1⟩ : Gl00Src) x5_0 _ rfl (hh.handed [4] rfl rfl rfl rfl) (hh.apart [4] rfl (hh.rd 2 rfl)) _ _ hr24) (sub_bx 0 rfl) (fun _ => ?_)
        refine JD_two (i := 1) (j := 4) (by kernel_rfl) ?_ ?_
        · refine JO_q rfl (wants_none rfl) rfl (ex_load_bx 8 ti_27 rfl rfl rfl) ?_
          refine JD_one (i := 4) (by kernel_rfl) ?_
          refine JO_st rfl (wants_none rfl) rfl (st_buildSlice (vs := [.int .i64 r23.1]) ([r23.1] : List Int) Try.underlying27 ti_2 zi_2 rfl rfl rfl (fun w hh => ⟨(Rd.mk_int _ _ _), trivial⟩)) (fun _ hk => nomatch hk) (fun b29 => ?_)
          refine JD_bnd fun z30 hz31 => ?_
          refine JD_one (i := 5) (by kernel_rfl) ?_
          refine JO_st rfl (wants_none rfl) rfl (st_append 8 Try.underlying27 ti_2 zi_2 rfl bi_2 rfl rfl rfl rfl (fun w hh => hh.src_ow 0 rfl) hz31) (sub_ow 1 rfl) (fun v32 => ?_)
          refine JD_take (i := 6) hp20 rfl (by kernel_rfl) (by kernel_rfl) (by kernel_rfl) (wants_none rfl) rfl (ex_fieldAddr fi_29_1 rfl rfl) ?_
          refine JD_one (i := 7) (by kernel_rfl) ?_
          refine JO_sk rfl (wants_none rfl) (sk_store_bx' 9 ti_27 rfl rfl (fun w hh => (hh.cv_ow 8 rfl)) rfl rfl rfl rfl) (sub_bx 2 rfl) ?_
          refine JD_done (by kernel_rfl) ?_
          refine N_block ?_
          refine N_then ?_
          refine J_region ?_
          refine JL_q (wants_none rfl) rfl (ex_move rfl) ?_
          refine JL_q (wants_none rfl) rfl (ex_sub rfl rfl) ?_
          refine JL_q (wants_none rfl) rfl (ex_assign rfl) ?_
          refine JL_nil ?_
          exact N_next' v32 ⟨rfl, rfl, rfl, rfl, rfl, rfl, trivial⟩ [2, 3, 4, 5, 1, 6, 7, 8, 9] rfl rfl
        · refine JO_st rfl (wants_none rfl) rfl (st_buildSlice (vs := [.int .i64 r23.1]) ([r23.1] : List Int) Try.underlying27 ti_2 zi_2 rfl rfl rfl (fun w hh => ⟨(Rd.mk_int _ _ _), trivial⟩)) (fun _ hk => nomatch hk) (fun b33 => ?_)
          refine JD_one (i := 1) (by kernel_rfl) ?_
          refine JO_q rfl (wants_none rfl) rfl (ex_load_bx 9 ti_27 rfl rfl rfl) ?_
          refine JD_bnd fun z34 hz35 => ?_
          refine JD_one (i := 5) (by kernel_rfl) ?_
          refine JO_st rfl (wants_none rfl) rfl (st_append 8 Try.underlying27 ti_2 zi_2 rfl bi_2 rfl rfl rfl rfl (fun w hh => hh.src_ow 0 rfl) hz35) (sub_ow 1 rfl) (fun v36 => ?_)
          refine JD_take (i := 6) hp20 rfl (by kernel_rfl) (by kernel_rfl) (by kernel_rfl) (wants_none rfl) rfl (ex_fieldAddr fi_29_1 rfl rfl) ?_
          refine JD_one (i := 7) (by kernel_rfl) ?_
          refine JO_sk rfl (wants_none rfl) (sk_store_bx' 9 ti_27 rfl rfl (fun w hh => (hh.cv_ow 8 rfl)) rfl rfl rfl rfl) (sub_bx 2 rfl) ?_
          refine JD_done (by kernel_rfl) ?_
          refine N_block ?_
          refine N_then ?_
          refine J_region ?_
          refine JL_q (wants_none rfl) rfl (ex_move rfl) ?_
          refine JL_q (wants_none rfl) rfl (ex_sub rfl rfl) ?_
          refine JL_q (wants_none rfl) rfl (ex_assign rfl) ?_
          refine JL_nil ?_
          exact N_next' v36 ⟨rfl, rfl, rfl, rfl, rfl, rfl, trivial⟩ [2, 3, 4, 5, 1, 6, 7, 8, 9] rfl rfl
    · refine J_exit ?_
      refine N_then_exit ?_
      exact N_break' g18 ⟨rfl, rfl, rfl, rfl, rfl, rfl, trivial⟩ [0, 1, 2, 3, 4, 5, 6, 7, 8] rfl rfl
  · refine N_then ?_
    refine J_seq ?_
    refine J_seq ?_
    refine J_region ?_
    refine JL_q (wants_none rfl) rfl (ex_move rfl) ?_
    refine JL_bnd fun r37 hr38 => ?_
    refine JL_callT (wants_none rfl) rfl Try.call36 rfl (CaT_of [4] [0, 1, 2, 3, 5, 6, 7, 8] rfl rfl (fun _ => rfl) fun w hh => c_spec_l00Src_pick w x5_1 (⟨r3.1, s17.1, s17.2.1⟩ : Gl00Src) x5_0 _ rfl (hh.handed [4] rfl rfl rfl rfl) (hh.apart [4] rfl (hh.rd 2 rfl)) _ _ hr38) (fun _ => ?_)
    refine JL_q (wants_none rfl) rfl (ex_assign rfl) ?_
    refine JL_nil ?_
    refine N_then ?_
    refine J_ctx (fun w hh => SH.ow_nil (α := Int) 2 hh) ?_
    refine J_loop' (S := Int × (Ik .u64) × (List Int) × Int) (G := Value) (F_spec_R8Row_L2 r3) (fun s39 g40 => [(2, .pointer (some ⟨b1, 0, none⟩)), (3, .pointer (some ⟨b2, 0, none⟩)), (6, .pointer (some ⟨x5_1, 0, none⟩)), (7, .pointer (some ⟨b11, 0, none⟩)), (8, .pointer (some ⟨b14, 0, none⟩)), (10, .int .i64 s39.2.2.2)]) (fun s39 g40 => [.bx b1 26 [.int .i64 0, .int .i64 0, .slice none 0 0], .bx b2 29 [.int .i64 0, .slice none 0 0, .slice none 0 0], .rd x5_0 r3.1, .pr (Sub v0_ p0 x5_0 r3.1), .bx x5_1 131 [x5_0, .int .i64 s39.1, .int .u64 s39.2.1.val], .ow 88 x10 r8.1.Rules, .bx b11 26 [.int .i64 r8.1.Symbols, .int .i64 r8.1.States, x10], .ow 2 g18 s17.2.2.1, .ow 2 g40 s39.2.2.1, .bx b14 29 [.int .i64 r12.1, g18, g40]]) (r37.2.1, r37.2.2, ([] : (List Int)), r37.1) (.slice none 0 0 : Value) ⟨rfl, rfl, rfl, rfl, rfl, rfl, trivial⟩ [2, 3, 4, 5, 1, 6, 7, 8, 0, 9] rfl rfl (fun s39 g40 => ?_) (fun s39 g40 => ?_)
    · unfold F_spec_R8Row_L2
      refine J_seq ?_
      refine J_seq ?_
      refine J_region ?_
      refine JL_q (wants_none rfl) rfl (ex_move rfl) ?_
      refine JL_q (wants_none rfl) rfl (ex_gtr rfl rfl) ?_
      refine JL_nil ?_
      refine N_then ?_
      refine J_if rfl (fun h41 => ?_) (fun h41 => ?_)
      · refine J_skip ?_
        refine N_then ?_
        refine J_seq ?_
        refine J_block ?_
        refine J_draw [4, 8, 9] (by kernel_rfl) ?_
        refine JP_take (i := 0) [0, 1, 2, 3, 5, 6, 7] [4, 8, 9] rfl (by kernel_rfl) (by kernel_rfl) (by kernel_rfl) rfl rfl (wants_none rfl) rfl (ex_fieldAddr fi_29_2 rfl rfl) ?_
        refine JP_take (i := 2) [0, 1, 2, 3, 5, 6, 7] [4, 8, 9] rfl (by kernel_rfl) (by kernel_rfl) (by kernel_rfl) rfl rfl (wants_none rfl) rfl (ex_move rfl) ?_
        refine JP_go [0, 1, 2, 3, 5, 6, 7] [4, 8, 9] rfl rfl rfl (fun w43 h1_44 hp42 => ?_)
        refine JD_bnd fun r45 hr46 => ?_
        refine JD_two (i := 1) (j := 3) (by kernel_rfl) ?_ ?_
        · refine JO_q rfl (wants_none rfl) rfl (ex_load_bx 9 ti_27 rfl rfl rfl) ?_
          refine JD_one (i := 3) (by kernel_rfl) ?_
          refine JO_callT rfl (wants_none rfl) rfl Try.call36 rfl (CaT_of [4] [0, 1, 2, 3, 5, 6, 7, 8, 9] rfl rfl (fun _ => rfl) fun w hh => c_spec_l00Src_pick w x5_1 (⟨r3.1, s39.1, s39.2.1⟩ : Gl00Src) x5_0 _ rfl (hh.handed [4] rfl rfl rfl rfl) (hh.apart [4] rfl (hh.rd 2 rfl)) _ _ hr46) (sub_bx 0 rfl) (fun _ => ?_)
          refine JD_one (i := 4) (by kernel_rfl) ?_
          refine JO_st rfl (wants_none rfl) rfl (st_buildSlice (vs := [.int .i64 r45.1]) ([r45.1] : List Int) Try.underlying27 ti_2 zi_2 rfl rfl rfl (fun w hh => ⟨(Rd.mk_int _ _ _), trivial⟩)) (fun _ hk => nomatch hk) (fun b47 => ?_)
          refine JD_bnd fun z48 hz49 => ?_
          refine JD_one (i := 5) (by kernel_rfl) ?_
          refine JO_st rfl (wants_none rfl) rfl (st_append 9 Try.underlying27 ti_2 zi_2 rfl bi_2 rfl rfl rfl rfl (fun w hh => hh.src_ow 0 rfl) hz49) (sub_ow 1 rfl) (fun v50 => ?_)
          refine JD_take (i := 6) hp42 rfl (by kernel_rfl) (by kernel_rfl) (by kernel_rfl) (wants_none rfl) rfl (ex_fieldAddr fi_29_2 rfl rfl) ?_
          refine JD_one (i := 7) (by kernel_rfl) ?_
          refine JO_sk rfl (wants_none rfl) (sk_store_bx' 10 ti_27 rfl rfl (fun w hh => (hh.cv_ow 9 rfl)) rfl rfl rfl rfl) (sub_bx 2 rfl) ?_
          refine JD_done (by kernel_rfl) ?_
          refine N_block ?_
          refine N_then ?_
          refine J_region ?_
          refine JL_q (wants_none rfl) rfl (ex_move rfl) ?_
          refine JL_q (wants_none rfl) rfl (ex_sub rfl rfl) ?_
          refine JL_q (wants_none rfl) rfl (ex_assign rfl) ?_
          refine JL_nil ?_
          exact N_next' v50 ⟨rfl, rfl, rfl, rfl, rfl, rfl, trivial⟩ [2, 3, 4, 5, 1, 6, 7, 8, 9, 10] rfl rfl
        · refine JO_callT rfl (wants_none rfl) rfl Try.call36 rfl (CaT_of [4] [0, 1, 2, 3, 5, 6, 7, 8, 9] rfl rfl (fun _ => rfl) fun w hh => c_spec_l00Src_pick w x5_1 (⟨r3.1, s39.1, s39.2.1⟩ : Gl00Src) x5_0 _ rfl (hh.handed [4] rfl rfl rfl rfl) (hh.apart [4] rfl (hh.rd 2 rfl)) _ _ hr46) (sub_bx 0 rfl) (fun _ => ?_)
          refine JD_two (i := 1) (j := 4) (by kernel_rfl) ?_ ?_
          · refine JO_q rfl (wants_none rfl) rfl (ex_load_bx 9 ti_27 rfl rfl rfl) ?_
            refine JD_one (i := 4) (by kernel_rfl) ?_
            refine JO_st rfl (wants_none rfl) rfl (st_buildSlice (vs := [.int .i64 r45.1]) ([r45.1] : List Int) Try.underlying27 ti_2 zi_2 rfl rfl rfl (fun w hh => ⟨(Rd.mk_int _ _ _), trivial⟩)) (fun _ hk => nomatch hk) (fun b51 => ?_)
            refine JD_bnd fun z52 hz53 => ?_
            refine JD_one (i := 5) (by kernel_rfl) ?_
            refine JO_st rfl (wants_none rfl) rfl (st_append 9 Try.underlying27 ti_2 zi_2 rfl bi_2 rfl rfl rfl rfl (fun w hh => hh.src_ow 0 rfl) hz53) (sub_ow 1 rfl) (fun v54 => ?_)
            refine JD_take (i := 6) hp42 rfl (by kernel_rfl) (by kernel_rfl) (by kernel_rfl) (wants_none rfl) rfl (ex_fieldAddr fi_29_2 rfl rfl) ?_
            refine JD_one (i := 7) (by kernel_rfl) ?_
            refine JO_sk rfl (wants_none rfl) (sk_store_bx' 10 ti_27 rfl rfl (fun w hh => (hh.cv_ow 9 rfl)) rfl rfl rfl rfl) (sub_bx 2 rfl) ?_
            refine JD_done (by kernel_rfl) ?_
            refine N_block ?_
            refine N_then ?_
            refine J_region ?_
            refine JL_q (wants_none rfl) rfl (ex_move rfl) ?_
            refine JL_q (wants_none rfl) rfl (ex_sub rfl rfl) ?_
            refine JL_q (wants_none rfl) rfl (ex_assign rfl) ?_
            refine JL_nil ?_
            exact N_next' v54 ⟨rfl, rfl, rfl, rfl, rfl, rfl, trivial⟩ [2, 3, 4, 5, 1, 6, 7, 8, 9, 10] rfl rfl
          · refine JO_st rfl (wants_none rfl) rfl (st_buildSlice (vs := [.int .i64 r45.1]) ([r45.1] : List Int) Try.underlying27 ti_2 zi_2 rfl rfl rfl (fun w hh => ⟨(Rd.mk_int _ _ _), trivial⟩)) (fun _ hk => nomatch hk) (fun b55 => ?_)
            refine JD_one (i := 1) (by kernel_rfl) ?_
            refine JO_q rfl (wants_none rfl) rfl (ex_load_bx 10 ti_27 rfl rfl rfl) ?_
            refine JD_bnd fun z56 hz57 => ?_
            refine JD_one (i := 5) (by kernel_rfl) ?_
            refine JO_st rfl (wants_none rfl) rfl (st_append 9 Try.underlying27 ti_2 zi_2 rfl bi_2 rfl rfl rfl rfl (fun w hh => hh.src_ow 0 rfl) hz57) (sub_ow 1 rfl) (fun v58 => ?_)
            refine JD_take (i := 6) hp42 rfl (by kernel_rfl) (by kernel_rfl) (by kernel_rfl) (wants_none rfl) rfl (ex_fieldAddr fi_29_2 rfl rfl) ?_
            refine JD_one (i := 7) (by kernel_rfl) ?_
            refine JO_sk rfl (wants_none rfl) (sk_store_bx' 10 ti_27 rfl rfl (fun w hh => (hh.cv_ow 9 rfl)) rfl rfl rfl rfl) (sub_bx 2 rfl) ?_
            refine JD_done (by kernel_rfl) ?_
            refine N_block ?_
            refine N_then ?_
            refine J_region ?_
            refine JL_q (wants_none rfl) rfl (ex_move rfl) ?_
            refine JL_q (wants_none rfl) rfl (ex_sub rfl rfl) ?_
            refine JL_q (wants_none rfl) rfl (ex_assign rfl) ?_
            refine JL_nil ?_
            exact N_next' v58 ⟨rfl, rfl, rfl, rfl, rfl, rfl, trivial⟩ [2, 3, 4, 5, 1, 6, 7, 8, 9, 10] rfl rfl
      · refine J_exit ?_
        refine N_then_exit ?_
        exact N_break' g40 ⟨rfl, rfl, rfl, rfl, rfl, rfl, trivial⟩ [0, 1, 2, 3, 4, 5, 6, 7, 8, 9] rfl rfl
    · refine N_then ?_
      refine J_seq ?_
      refine J_region ?_
      refine JL_q (wants_none rfl) rfl (ex_fieldAddr fi_29_1 rfl rfl) ?_
      refine JL_q (wants_none rfl) rfl (ex_load_bx 9 ti_27 rfl rfl rfl) ?_
      refine JL_bnd fun r59 hr60 => ?_
      refine JL_call (wants_none rfl) rfl Try.call66 rfl (Ca_self (fun _ => rfl) fun w hh => c_spec_l05Trim _ w (fun _ hk => hk.elim) _ _ (hh.ow0 7 rfl) _ hr60) (fun x61 => ?_)
      refine JL_q (wants_none rfl) rfl (ex_fieldAddr fi_29_1 rfl rfl) ?_
      refine JL_sk (wants_none rfl) (sk_store_bx' 10 ti_27 rfl rfl (fun w hh => (hh.cv_ow 0 rfl)) rfl rfl rfl rfl) ?_
      refine JL_nil ?_
      refine N_then ?_
      refine J_seq ?_
      refine J_region ?_
      refine JL_q (wants_none rfl) rfl (ex_fieldAddr fi_29_2 rfl rfl) ?_
      refine JL_q (wants_none rfl) rfl (ex_load_bx 10 ti_27 rfl rfl rfl) ?_
      refine JL_bnd fun r62 hr63 => ?_
      refine JL_call (wants_none rfl) rfl Try.call66 rfl (Ca_self (fun _ => rfl) fun w hh => c_spec_l05Trim _ w (fun _ hk => hk.elim) _ _ (hh.ow0 9 rfl) _ hr63) (fun x64 => ?_)
      refine JL_q (wants_none rfl) rfl (ex_fieldAddr fi_29_2 rfl rfl) ?_
      refine JL_sk (wants_none rfl) (sk_store_bx' 11 ti_27 rfl rfl (fun w hh => (hh.cv_ow 0 rfl)) rfl rfl rfl rfl) ?_
      refine JL_nil ?_
      refine N_then ?_
      refine J_seq ?_
      refine J_draw [2, 3, 6] (by kernel_rfl) ?_
      refine JP_take (i := 0) [0, 1, 4, 5, 7, 8, 9, 10, 11] [2, 3, 6] rfl (by kernel_rfl) (by kernel_rfl) (by kernel_rfl) rfl rfl (wants_none rfl) rfl (ex_load_bx_agg 5 ti_26 rfl rfl rfl rfl) ?_
      refine JP_take (i := 1) [0, 1, 4, 5, 7, 8, 9, 10, 11] [2, 3, 6] rfl (by kernel_rfl) (by kernel_rfl) (by kernel_rfl) rfl rfl (wants_none rfl) rfl (ex_load_bx_agg 8 ti_29 rfl rfl rfl rfl) ?_
      refine JP_take (i := 2) [0, 1, 4, 5, 7, 8, 9, 10, 11] [2, 3, 6] rfl (by kernel_rfl) (by kernel_rfl) (by kernel_rfl) rfl rfl (wants_none rfl) rfl (ex_move rfl) ?_
      refine JP_take (i := 5) [0, 1, 4, 5, 7, 8, 9, 10, 11] [2, 3, 6] rfl (by kernel_rfl) (by kernel_rfl) (by kernel_rfl) rfl rfl (wants_none rfl) rfl (ex_move rfl) ?_
      refine JP_go [0, 1, 4, 5, 7, 8, 9, 10, 11] [2, 3, 6] rfl rfl rfl (fun w66 h1_67 hp65 => ?_)
      refine JD_bnd fun r68 hr69 => ?_
      refine JD_one (i := 3) (by kernel_rfl) ?_
      refine JO_callT rfl (wants_none rfl) rfl Try.call36 rfl (CaT_of [6] [0, 1, 2, 3, 4, 5, 7, 8, 9, 10, 11] rfl rfl (fun _ => rfl) fun w hh => c_spec_l00Src_pick w x5_1 (⟨r3.1, s39.1, s39.2.1⟩ : Gl00Src) x5_0 _ rfl (hh.handed [6] rfl rfl rfl rfl) (hh.apart [6] rfl (hh.rd 4 rfl)) _ _ hr69) (sub_bx 2 rfl) (fun _ => ?_)
      refine JD_take (i := 4) hp65 rfl (by kernel_rfl) (by kernel_rfl) (by kernel_rfl) (wants_none rfl) rfl (ex_add rfl rfl) ?_
      refine JD_bnd fun r70 hr71 => ?_
      refine JD_one (i := 6) (by kernel_rfl) ?_
      refine JO_callT rfl (wants_none rfl) rfl Try.call36 rfl (CaT_of [0] [1, 2, 3, 4, 5, 6, 7, 8, 9, 10, 11] rfl rfl (fun _ => rfl) fun w hh => c_spec_l00Src_pick w x5_1 (⟨r3.1, r68.2.1, r68.2.2⟩ : Gl00Src) x5_0 _ rfl (hh.handed [0] rfl rfl rfl rfl) (hh.apart [0] rfl (hh.rd 5 rfl)) _ _ hr71) (sub_bx 2 rfl) (fun _ => ?_)
      refine JD_take (i := 7) hp65 rfl (by kernel_rfl) (by kernel_rfl) (by kernel_rfl) (wants_none rfl) rfl (ex_add rfl rfl) ?_
      refine JD_one (i := 8) (by kernel_rfl) ?_
      refine JO_sk rfl (wants_none rfl) (sk_store_bx' 3 ti_26 rfl rfl (fun w hh => (cv_aggs ⟨cv_int, cv_int, (hh.cv_ow 7 rfl), trivial⟩)) rfl rfl rfl rfl) (sub_bx 0 rfl) ?_
      refine JD_one (i := 9) (by kernel_rfl) ?_
      refine JO_sk rfl (wants_none rfl) (sk_store_bx' 4 ti_29 rfl rfl (fun w hh => (cv_aggs ⟨cv_int, (hh.cv_ow 2 rfl), (hh.cv_ow 1 rfl), trivial⟩)) rfl rfl rfl rfl) (sub_bx 1 rfl) ?_
      refine JD_take (i := 10) hp65 rfl (by kernel_rfl) (by kernel_rfl) (by kernel_rfl) (wants_none rfl) rfl (ex_assign rfl) ?_
      refine JD_take (i := 11) hp65 rfl (by kernel_rfl) (by kernel_rfl) (by kernel_rfl) (wants_none rfl) rfl (ex_assign rfl) ?_
      refine JD_done (by kernel_rfl) ?_
      refine N_then ?_
      refine J_ret ?_
      exact N_ret4 rfl (rv_cell 3 rfl rfl ti_26 rfl) (rv_cell 4 rfl rfl ti_29 rfl) (rv_tmp rfl) (rv_tmp rfl) (fun w hh => ⟨(x10, x61, x64), rfl, hh.sel [7, 2, 1] rfl⟩)

set_option maxHeartbeats 40000000 in
theorem c_laws_r8At (A : Nat → Prop) (w : World) (hA : ∀ k, A k → k < w.heap.size) (v0_ : Value) (p0 : (List (Ik .u8))) (hp0 : Rd A w v0_ p0) (p1 : Int) (p2 : Int) (r : Int) (hr : F_laws_r8At p0 p1 p2 = some r) :
    Con Try.prog 19 [v0_, .int .i64 p1, .int .i64 p2] A w (fun x_ : Unit => .int .i64 r) (fun x_ => []) := by
  refine Con_of (v := fun (r : Int) (x_ : Unit) => .int .i64 r) (fs := fun r x_ => []) Try.func19 rfl Try.ntmps19 rfl ((SH.start hA).start_rd rfl hp0) rfl ?_ hr
  unfold F_laws_r8At
  refine J_seq ?_
  refine J_region ?_
  refine JL_q (wants_none rfl) rfl (ex_assign rfl) ?_
  refine JL_nil ?_
  refine N_then ?_
  refine J_seq ?_
  refine J_seq ?_
  refine J_region ?_
  refine JL_q (wants_none rfl) rfl (ex_move rfl) ?_
  refine JL_q (wants_none rfl) rfl (ex_leq rfl rfl) ?_
  refine JL_q (wants_none rfl) rfl (ex_move rfl) ?_
  refine JL_cond (fun h1 => ?_) (fun h1 => ?_)
  · refine JL_passed rfl rfl rfl h1 ?_
    refine JL_passed rfl rfl rfl h1 ?_
    refine JL_passed rfl rfl rfl h1 ?_
    refine JL_passed rfl rfl rfl h1 ?_
    refine JL_q (wants_none rfl) rfl (ex_pick_true rfl h1 rfl) ?_
    refine JL_nil ?_
    refine N_then ?_
    refine J_if_true rfl rfl ?_
    refine J_seq ?_
    refine J_region ?_
    refine JL_q (wants_none rfl) rfl (ex_assign rfl) ?_
    refine JL_nil ?_
    refine N_then ?_
    refine J_ret ?_
    refine N_then_ret ?_
    exact N_ret1 rfl (rv_tmp rfl) (fun w hh => ⟨(), rfl, hh.sel [] rfl⟩)
  · refine JL_q (wants_some rfl rfl rfl h1) rfl (ex_move rfl) ?_
    refine JL_q (wants_some rfl rfl rfl h1) rfl (ex_move rfl) ?_
    refine JL_q (wants_some rfl rfl rfl h1) rfl (ex_len_rd 0 Try.underlying22 rfl rfl) ?_
    refine JL_q (wants_some rfl rfl rfl h1) rfl (ex_geq rfl rfl) ?_
    refine JL_q (wants_none rfl) rfl (ex_pick_false rfl h1 rfl) ?_
    refine JL_nil ?_
    refine N_then ?_
    refine J_if rfl (fun h2 => ?_) (fun h2 => ?_)
    · refine J_seq ?_
      refine J_region ?_
      refine JL_q (wants_none rfl) rfl (ex_assign rfl) ?_
      refine JL_nil ?_
      refine N_then ?_
      refine J_ret ?_
      refine N_then_ret ?_
      exact N_ret1 rfl (rv_tmp rfl) (fun w hh => ⟨(), rfl, hh.sel [] rfl⟩)
    · refine J_skip ?_
      refine N_then ?_
      refine J_seq ?_
      refine J_region ?_
      refine JL_q (wants_none rfl) rfl (ex_move rfl) ?_
      refine JL_q (wants_none rfl) rfl (ex_move rfl) ?_
      refine JL_bnd fun y3 hy4 => ?_
      refine JL_st (wants_none rfl) rfl (st_index 0 Try.underlying22 ti_5 rfl rfl rfl hy4) (fun q5 => ?_)
      refine JL_st (wants_none rfl) rfl (st_load_pt_o 0 (opens_ik _) ti_5 rfl rfl) (fun _ => ?_)
      refine JL_q (wants_none rfl) rfl (ex_conv_i64 Try.underlying5 Try.underlying2 rfl) ?_
      refine JL_q (wants_none rfl) rfl (ex_move rfl) ?_
      refine JL_bnd fun u7 hu8 => ?_
      refine JL_q (wants_none rfl) rfl (ex_rem rfl rfl (nz_ne hu8)) ?_
      refine JL_q (wants_none rfl) rfl (ex_assign rfl) ?_
      refine JL_nil ?_
      refine N_then ?_
      refine J_ret ?_
      exact N_ret1 rfl (rv_tmp rfl) (fun w hh => ⟨(), rfl, hh.sel [] rfl⟩)

set_option maxHeartbeats 40000000 in
theorem c_impl_within (A : Nat → Prop) (w : World) (hA : ∀ k, A k → k < w.heap.size) (p0 : Int) (p1 : Int) (p2 : Int) (r : Bool) (hr : F_impl_within p0 p1 p2 = some r) :
    Con Try.prog 44 [.int .i64 p0, .int .i64 p1, .int .i64 p2] A w (fun x_ : Unit => .bool r) (fun x_ => []) := by
  refine Con_of (v := fun (r : Bool) (x_ : Unit) => .bool r) (fs := fun r x_ => []) Try.func44 rfl Try.ntmps44 rfl (SH.start hA) rfl ?_ hr
  unfold F_impl_within
  refine J_seq ?_
  refine J_region ?_
  refine JL_q (wants_none rfl) rfl (ex_assign rfl) ?_
  refine JL_nil ?_
  refine N_then ?_
  refine J_seq ?_
  refine J_region ?_
  refine JL_q (wants_none rfl) rfl (ex_move rfl) ?_
  refine JL_q (wants_none rfl) rfl (ex_move rfl) ?_
  refine JL_q (wants_none rfl) rfl (ex_leq rfl rfl) ?_
  refine JL_q (wants_none rfl) rfl (ex_move rfl) ?_
  refine JL_cond (fun h1 => ?_) (fun h1 => ?_)
  · refine JL_q (wants_some rfl rfl rfl h1) rfl (ex_move rfl) ?_
    refine JL_q (wants_some rfl rfl rfl h1) rfl (ex_move rfl) ?_
    refine JL_q (wants_some rfl rfl rfl h1) rfl (ex_leq rfl rfl) ?_
    refine JL_q (wants_none rfl) rfl (ex_pick_true rfl h1 rfl) ?_
    refine JL_q (wants_none rfl) rfl (ex_assign rfl) ?_
    refine JL_nil ?_
    refine N_then ?_
    refine J_ret ?_
    exact N_ret1 rfl (rv_tmp rfl) (fun w hh => ⟨(), rfl, hh.sel [] rfl⟩)
  · refine JL_passed rfl rfl rfl h1 ?_
    refine JL_passed rfl rfl rfl h1 ?_
    refine JL_passed rfl rfl rfl h1 ?_
    refine JL_q (wants_none rfl) rfl (ex_pick_false rfl h1 rfl) ?_
    refine JL_q (wants_none rfl) rfl (ex_assign rfl) ?_
    refine JL_nil ?_
    refine N_then ?_
    refine J_ret ?_
    exact N_ret1 rfl (rv_tmp rfl) (fun w hh => ⟨(), rfl, hh.sel [] rfl⟩)

set_option maxHeartbeats 40000000 in
theorem c_impl_size_impl_Rule (A : Nat → Prop) (w : World) (hA : ∀ k, A k → k < w.heap.size) (v0_ : Value) (p0 : (List GRule)) (hp0 : Rd A w v0_ p0) (r : Int) (hr : F_impl_size_impl_Rule p0 = some r) :
    Con Try.prog 45 [v0_] A w (fun x_ : Unit => .int .i64 r) (fun x_ => []) := by
  refine Con_of (v := fun (r : Int) (x_ : Unit) => .int .i64 r) (fs := fun r x_ => []) Try.func45 rfl Try.ntmps45 rfl ((SH.start hA).start_rd rfl hp0) rfl ?_ hr
  unfold F_impl_size_impl_Rule
  refine J_seq ?_
  refine J_region ?_
  refine JL_q (wants_none rfl) rfl (ex_assign rfl) ?_
  refine JL_nil ?_
  refine N_then ?_
  refine J_seq ?_
  refine J_region ?_
  refine JL_q (wants_none rfl) rfl (ex_move rfl) ?_
  refine JL_q (wants_none rfl) rfl (ex_len_rd 0 Try.underlying24 rfl rfl) ?_
  refine JL_q (wants_none rfl) rfl (ex_assign rfl) ?_
  refine JL_nil ?_
  refine N_then ?_
  refine J_ret ?_
  exact N_ret1 rfl (rv_tmp rfl) (fun w hh => ⟨(), rfl, hh.sel [] rfl⟩)

set_option maxHeartbeats 40000000 in
theorem c_impl_noRule (A : Nat → Prop) (w : World) (hA : ∀ k, A k → k < w.heap.size)  (r : GRule) (hr : F_impl_noRule  = some r) :
    Con Try.prog 123 [] A w (fun x_ : Unit => .agg #[.int .i64 r.Write, .int .i64 r.Move, .int .i64 r.Next]) (fun x_ => []) := by
  refine Con_of (v := fun (r : GRule) (x_ : Unit) => .agg #[.int .i64 r.Write, .int .i64 r.Move, .int .i64 r.Next]) (fs := fun r x_ => []) Try.func123 rfl Try.ntmps123 rfl (SH.start hA) rfl ?_ hr
  unfold F_impl_noRule
  refine J_seq ?_
  refine J_region ?_
  refine JL_st (wants_none rfl) rfl (st_alloc zi_88 rfl) (fun b1 => ?_)
  refine JL_nil ?_
  refine N_then ?_
  refine J_seq ?_
  refine J_region ?_
  refine JL_q (wants_none rfl) rfl (ex_build si_88 rfl (.cons fi_88_2 rfl rfl .nil) (fun w hh => ⟨cv_int, trivial⟩)) ?_
  refine JL_sk (wants_none rfl) (sk_store_bx' 0 ti_88 rfl rfl (fun w hh => (cv_aggs ⟨cv_int, cv_int, cv_int, trivial⟩)) rfl rfl rfl rfl) ?_
  refine JL_nil ?_
  refine N_then ?_
  refine J_ret ?_
  exact N_ret1 rfl (rv_cell 0 rfl rfl ti_88 rfl) (fun w hh => ⟨(), rfl, hh.sel [] rfl⟩)

set_option maxHeartbeats 40000000 in
theorem c_impl_isRule (A : Nat → Prop) (w : World) (hA : ∀ k, A k → k < w.heap.size) (v0_ : Value) (p0 : GRule) (hp0 : Rd A w v0_ p0) (r : Bool) (hr : F_impl_isRule p0 = some r) :
    Con Try.prog 71 [v0_] A w (fun x_ : Unit => .bool r) (fun x_ => []) := by
  obtain rfl := GRule.open hp0
  refine Con_of (v := fun (r : Bool) (x_ : Unit) => .bool r) (fs := fun r x_ => []) Try.func71 rfl Try.ntmps71 rfl (SH.start hA) rfl ?_ hr
  unfold F_impl_isRule
  refine J_seq ?_
  refine J_region ?_
  refine JL_st (wants_none rfl) rfl (st_box' rfl (fun w hh => (cv_aggs ⟨cv_int, cv_int, cv_int, trivial⟩))) (fun b1 => ?_)
  refine JL_q (wants_none rfl) rfl (ex_assign rfl) ?_
  refine JL_nil ?_
  refine N_then ?_
  refine J_seq ?_
  refine J_draw [] (by kernel_rfl) ?_
  refine JP_take (i := 0) [0] [] rfl (by kernel_rfl) (by kernel_rfl) (by kernel_rfl) rfl rfl (wants_none rfl) rfl (ex_load_bx_agg 0 ti_88 rfl rfl rfl rfl) ?_
  refine JP_go [0] [] rfl rfl rfl (fun w3 h1_4 hp2 => ?_)
  refine JD_bnd fun r5 hr6 => ?_
  refine JD_one (i := 1) (by kernel_rfl) ?_
  refine JO_call rfl (wants_none rfl) rfl Try.call123 rfl (Ca_of0 fun w hh => c_impl_noRule _ w (fun _ hk => hk.elim)  _ hr6) (fun _ => ?_)
  refine JD_take (i := 2) hp2 rfl (by kernel_rfl) (by kernel_rfl) (by kernel_rfl) (wants_none rfl) rfl (ex_neq_seq_88 rfl rfl) ?_
  refine JD_take (i := 3) hp2 rfl (by kernel_rfl) (by kernel_rfl) (by kernel_rfl) (wants_none rfl) rfl (ex_assign rfl) ?_
  refine JD_done (by kernel_rfl) ?_
  refine N_then ?_
  refine J_ret ?_
  exact N_ret1 rfl (rv_tmp rfl) (fun w hh => ⟨(), rfl, hh.sel [] rfl⟩)

set_option maxHeartbeats 40000000 in
theorem c_impl_validRule (A : Nat → Prop) (w : World) (hA : ∀ k, A k → k < w.heap.size) (v0_ : Value) (p0 : GMachine) (hp0 : Rd A w v0_ p0) (v1_ : Value) (p1 : GRule) (hp1 : Rd A w v1_ p1) (r : Bool) (hr : F_impl_validRule p0 p1 = some r) :
    Con Try.prog 48 [v0_, v1_] A w (fun x_ : Unit => .bool r) (fun x_ => []) := by
  obtain ⟨v0_0, rfl, hp0_0⟩ := GMachine.open hp0
  obtain rfl := GRule.open hp1
  refine Con_of (v := fun (r : Bool) (x_ : Unit) => .bool r) (fs := fun r x_ => []) Try.func48 rfl Try.ntmps48 rfl ((SH.start hA).start_rd rfl hp0_0) rfl ?_ hr
  unfold F_impl_validRule
  refine J_seq ?_
  refine J_region ?_
  refine JL_st (wants_none rfl) rfl (st_box' rfl (fun w hh => (cv_aggs ⟨cv_int, cv_int, (hh.cv 0 rfl), trivial⟩))) (fun b1 => ?_)
  refine JL_st (wants_none rfl) rfl (st_box' rfl (fun w hh => (cv_aggs ⟨cv_int, cv_int, cv_int, trivial⟩))) (fun b2 => ?_)
  refine JL_q (wants_none rfl) rfl (ex_assign rfl) ?_
  refine JL_nil ?_
  refine N_then ?_
  refine J_seq ?_
  refine J_seq ?_
  refine J_region ?_
  refine JL_q (wants_none rfl) rfl (ex_load_bx_agg 0 ti_88 rfl rfl rfl rfl) ?_
  refine JL_bnd fun r3 hr4 => ?_
  refine JL_call (wants_none rfl) rfl Try.call71 rfl (Ca_of0 fun w hh => c_impl_isRule _ w (fun _ hk => hk.elim) _ _ (GRule.rdmk (Rd.mk_int _ _ _) (Rd.mk_int _ _ _) (Rd.mk_int _ _ _)) _ hr4) (fun _ => ?_)
  refine JL_q (wants_none rfl) rfl (ex_not rfl) ?_
  refine JL_nil ?_
  refine N_then ?_
  refine J_if rfl (fun h5 => ?_) (fun h5 => ?_)
  · refine J_seq ?_
    refine J_region ?_
    refine JL_q (wants_none rfl) rfl (ex_assign rfl) ?_
    refine JL_nil ?_
    refine N_then ?_
    refine J_ret ?_
    refine N_then_ret ?_
    exact N_ret1 rfl (rv_tmp rfl) (fun w hh => ⟨(), rfl, hh.sel [] rfl⟩)
  · refine J_skip ?_
    refine N_then ?_
    refine J_seq ?_
    refine J_region ?_
    refine JL_q (wants_none rfl) rfl (ex_fieldAddr fi_88_0 rfl rfl) ?_
    refine JL_q (wants_none rfl) rfl (ex_load_bx 0 ti_2 rfl rfl rfl) ?_
    refine JL_q (wants_none rfl) rfl (ex_fieldAddr fi_26_0 rfl rfl) ?_
    refine JL_q (wants_none rfl) rfl (ex_load_bx 1 ti_2 rfl rfl rfl) ?_
    refine JL_q (wants_none rfl) rfl (ex_sub rfl rfl) ?_
    refine JL_bnd fun r6 hr7 => ?_
    refine JL_call (wants_none rfl) rfl Try.call44 rfl (Ca_of0 fun w hh => c_impl_within _ w (fun _ hk => hk.elim) _ _ _ _ hr7) (fun _ => ?_)
    refine JL_q (wants_none rfl) rfl (ex_move rfl) ?_
    refine JL_cond (fun h8 => ?_) (fun h8 => ?_)
    · refine JL_q (wants_some rfl rfl rfl h8) rfl (ex_fieldAddr fi_88_1 rfl rfl) ?_
      refine JL_q (wants_some rfl rfl rfl h8) rfl (ex_load_bx 0 ti_2 rfl rfl rfl) ?_
      refine JL_q (wants_some rfl rfl rfl h8) rfl (ex_eql rfl rfl) ?_
      refine JL_q (wants_some rfl rfl rfl h8) rfl (ex_move rfl) ?_
      refine JL_cond (fun h9 => ?_) (fun h9 => ?_)
      · refine JL_passed rfl rfl rfl h9 ?_
        refine JL_passed rfl rfl rfl h9 ?_
        refine JL_passed rfl rfl rfl h9 ?_
        refine JL_q (wants_some rfl rfl rfl h8) rfl (ex_pick_true rfl h9 rfl) ?_
        refine JL_q (wants_none rfl) rfl (ex_pick_true rfl h8 rfl) ?_
        refine JL_q (wants_none rfl) rfl (ex_move rfl) ?_
        refine JL_q (wants_some rfl rfl rfl rfl) rfl (ex_fieldAddr fi_88_2 rfl rfl) ?_
        refine JL_q (wants_some rfl rfl rfl rfl) rfl (ex_load_bx 0 ti_2 rfl rfl rfl) ?_
        refine JL_q (wants_some rfl rfl rfl rfl) rfl (ex_fieldAddr fi_26_1 rfl rfl) ?_
        refine JL_q (wants_some rfl rfl rfl rfl) rfl (ex_load_bx 1 ti_2 rfl rfl rfl) ?_
        refine JL_q (wants_some rfl rfl rfl rfl) rfl (ex_sub rfl rfl) ?_
        refine JL_bnd fun r10 hr11 => ?_
        refine JL_call (wants_some rfl rfl rfl rfl) rfl Try.call44 rfl (Ca_of0 fun w hh => c_impl_within _ w (fun _ hk => hk.elim) _ _ _ _ hr11) (fun _ => ?_)
        refine JL_q (wants_none rfl) rfl (ex_pick_true rfl rfl rfl) ?_
        refine JL_q (wants_none rfl) rfl (ex_assign rfl) ?_
        refine JL_nil ?_
        refine N_then ?_
        refine J_ret ?_
        exact N_ret1 rfl (rv_tmp rfl) (fun w hh => ⟨(), rfl, hh.sel [] rfl⟩)
      · refine JL_q (wants_some rfl rfl rfl h9) rfl (ex_fieldAddr fi_88_1 rfl rfl) ?_
        refine JL_q (wants_some rfl rfl rfl h9) rfl (ex_load_bx 0 ti_2 rfl rfl rfl) ?_
        refine JL_q (wants_some rfl rfl rfl h9) rfl (ex_eql rfl rfl) ?_
        refine JL_q (wants_some rfl rfl rfl h8) rfl (ex_pick_false rfl h9 rfl) ?_
        refine JL_q (wants_none rfl) rfl (ex_pick_true rfl h8 rfl) ?_
        refine JL_q (wants_none rfl) rfl (ex_move rfl) ?_
        refine JL_cond (fun h12 => ?_) (fun h12 => ?_)
        · refine JL_q (wants_some rfl rfl rfl h12) rfl (ex_fieldAddr fi_88_2 rfl rfl) ?_
          refine JL_q (wants_some rfl rfl rfl h12) rfl (ex_load_bx 0 ti_2 rfl rfl rfl) ?_
          refine JL_q (wants_some rfl rfl rfl h12) rfl (ex_fieldAddr fi_26_1 rfl rfl) ?_
          refine JL_q (wants_some rfl rfl rfl h12) rfl (ex_load_bx 1 ti_2 rfl rfl rfl) ?_
          refine JL_q (wants_some rfl rfl rfl h12) rfl (ex_sub rfl rfl) ?_
          refine JL_bnd fun r13 hr14 => ?_
          refine JL_call (wants_some rfl rfl rfl h12) rfl Try.call44 rfl (Ca_of0 fun w hh => c_impl_within _ w (fun _ hk => hk.elim) _ _ _ _ hr14) (fun _ => ?_)
          refine JL_q (wants_none rfl) rfl (ex_pick_true rfl h12 rfl) ?_
          refine JL_q (wants_none rfl) rfl (ex_assign rfl) ?_
          refine JL_nil ?_
          refine N_then ?_
          refine J_ret ?_
          exact N_ret1 rfl (rv_tmp rfl) (fun w hh => ⟨(), rfl, hh.sel [] rfl⟩)
        · refine JL_passed rfl rfl rfl h12 ?_
          refine JL_passed rfl rfl rfl h12 ?_
          refine JL_passed rfl rfl rfl h12 ?_
          refine JL_passed rfl rfl rfl h12 ?_
          refine JL_passed rfl rfl rfl h12 ?_
          refine JL_passed rfl rfl rfl h12 ?_
          refine JL_q (wants_none rfl) rfl (ex_pick_false rfl h12 rfl) ?_
          refine JL_q (wants_none rfl) rfl (ex_assign rfl) ?_
          refine JL_nil ?_
          refine N_then ?_
          refine J_ret ?_
          exact N_ret1 rfl (rv_tmp rfl) (fun w hh => ⟨(), rfl, hh.sel [] rfl⟩)
    · refine JL_passed rfl rfl rfl h8 ?_
      refine JL_passed rfl rfl rfl h8 ?_
      refine JL_passed rfl rfl rfl h8 ?_
      refine JL_passed rfl rfl rfl h8 ?_
      refine JL_passed_undef rfl rfl rfl ?_
      refine JL_passed_undef rfl rfl rfl ?_
      refine JL_passed_undef rfl rfl rfl ?_
      refine JL_passed rfl rfl rfl h8 ?_
      refine JL_q (wants_none rfl) rfl (ex_pick_false rfl h8 rfl) ?_
      refine JL_q (wants_none rfl) rfl (ex_move rfl) ?_
      refine JL_passed rfl rfl rfl rfl ?_
      refine JL_passed rfl rfl rfl rfl ?_
      refine JL_passed rfl rfl rfl rfl ?_
      refine JL_passed rfl rfl rfl rfl ?_
      refine JL_passed rfl rfl rfl rfl ?_
      refine JL_passed rfl rfl rfl rfl ?_
      refine JL_q (wants_none rfl) rfl (ex_pick_false rfl rfl rfl) ?_
      refine JL_q (wants_none rfl) rfl (ex_assign rfl) ?_
      refine JL_nil ?_
      refine N_then ?_
      refine J_ret ?_
      exact N_ret1 rfl (rv_tmp rfl) (fun w hh => ⟨(), rfl, hh.sel [] rfl⟩)

set_option maxHeartbeats 40000000 in
theorem c_impl_ValidMachine_1 (A : Nat → Prop) (w : World) (hA : ∀ k, A k → k < w.heap.size) (v0_ : Value) (p0 : GRule) (hp0 : Rd A w v0_ p0) (v1_ : Value) (p1 : GMachine) (hp1 : RdA A w.heap.size w v1_ p1) (r : Bool) (hr : F_impl_ValidMachine_1 p0 p1 = some r) :
    Con Try.prog 47 [v0_, v1_] A w (fun x_ : Unit => .bool r) (fun x_ => []) := by
  obtain rfl := GRule.open hp0
  refine Con_of (v := fun (r : Bool) (x_ : Unit) => .bool r) (fs := fun r x_ => []) Try.func47 rfl Try.ntmps47 rfl ((SH.start hA).start_pa' rfl hp1) rfl ?_ hr
  unfold F_impl_ValidMachine_1
  refine J_seq ?_
  refine J_region ?_
  refine JL_st (wants_none rfl) rfl (st_box' rfl (fun w hh => (cv_aggs ⟨cv_int, cv_int, cv_int, trivial⟩))) (fun b1 => ?_)
  refine JL_q (wants_none rfl) rfl (ex_assign rfl) ?_
  refine JL_nil ?_
  refine N_then ?_
  refine J_seq ?_
  refine J_region ?_
  refine JL_st (wants_none rfl) rfl (st_load_pa_o 1 (GMachine.opens _) ti_26 rfl rfl) (fun v2 => ?_)
  refine JL_q (wants_none rfl) rfl (ex_load_bx_agg 1 ti_88 rfl rfl rfl rfl) ?_
  refine JL_bnd fun r3 hr4 => ?_
  refine JL_call (wants_none rfl) rfl Try.call48 rfl (Ca_of0 fun w hh => c_impl_validRule _ w (fun _ hk => hk.elim) _ _ (GMachine.rdmk (Rd.mk_int _ _ _) (Rd.mk_int _ _ _) (hh.rd0 0 rfl)) _ _ (GRule.rdmk (Rd.mk_int _ _ _) (Rd.mk_int _ _ _) (Rd.mk_int _ _ _)) _ hr4) (fun _ => ?_)
  refine JL_q (wants_none rfl) rfl (ex_not rfl) ?_
  refine JL_q (wants_none rfl) rfl (ex_assign rfl) ?_
  refine JL_nil ?_
  refine N_then ?_
  refine J_ret ?_
  exact N_ret1 rfl (rv_tmp rfl) (fun w hh => ⟨(), rfl, hh.sel [] rfl⟩)

set_option maxHeartbeats 40000000 in
theorem c_slices_IndexFunc_Simpl_Rule_impl_Rule (A : Nat → Prop) (w : World) (hA : ∀ k, A k → k < w.heap.size) (v0_ : Value) (p0 : (List GRule)) (hp0 : Rd A w v0_ p0) (v1_ : Value) (p1 : (GRule → Option Bool)) (hp1 : Clo Try.prog w v1_ p1 .bool) (r : Int) (hr : F_slices_IndexFunc_Simpl_Rule_impl_Rule p0 p1 = some r) :
    Con Try.prog 92 [v0_, v1_] A w (fun x_ : Unit => .int .i64 r) (fun x_ => []) := by
  refine Con_of (v := fun (r : Int) (x_ : Unit) => .int .i64 r) (fs := fun r x_ => []) Try.func92 rfl Try.ntmps92 rfl ((SH.start hA).start_rd rfl hp0) rfl ?_ hr
  unfold F_slices_IndexFunc_Simpl_Rule_impl_Rule
  refine J_seq ?_
  refine J_region ?_
  refine JL_q (wants_none rfl) rfl (ex_assign rfl) ?_
  refine JL_nil ?_
  refine N_then ?_
  refine J_seq ?_
  refine J_seq ?_
  refine J_region ?_
  refine JL_q (wants_none rfl) rfl (ex_move rfl) ?_
  refine JL_q (wants_none rfl) rfl (ex_len_rd 0 Try.underlying24 rfl rfl) ?_
  refine JL_q (wants_none rfl) rfl (ex_move rfl) ?_
  refine JL_nil ?_
  refine N_then ?_
  refine J_loop' (S := Int) (G := Unit) (F_slices_IndexFunc_Simpl_Rule_impl_Rule_L1 p0 p1) (fun s1 _ => [(0, v0_), (1, v1_), (7, .int .i64 (p0.length : Int)), (8, .int .i64 s1)]) (fun s1 _ => [.rd v0_ p0]) 0 () ⟨rfl, rfl, rfl, rfl, trivial⟩ [0] rfl rfl (fun s1 g2 => ?_) (fun s1 g2 => ?_)
  · unfold F_slices_IndexFunc_Simpl_Rule_impl_Rule_L1
    refine J_seq ?_
    refine J_region ?_
    refine JL_q (wants_none rfl) rfl (ex_lss rfl rfl) ?_
    refine JL_nil ?_
    refine N_then ?_
    refine J_seq ?_
    refine J_if rfl (fun h3 => ?_) (fun h3 => ?_)
    · refine J_skip ?_
      refine N_then ?_
      refine J_seq ?_
      refine J_block ?_
      refine J_seq ?_
      refine J_region ?_
      refine JL_q (wants_none rfl) rfl (ex_move rfl) ?_
      refine JL_q (wants_none rfl) rfl (ex_assign rfl) ?_
      refine JL_nil ?_
      refine N_then ?_
      refine J_seq ?_
      refine J_region ?_
      refine JL_q (wants_none rfl) rfl (ex_move rfl) ?_
      refine JL_q (wants_none rfl) rfl (ex_move rfl) ?_
      refine JL_q (wants_none rfl) rfl (ex_move rfl) ?_
      refine JL_bnd fun y4 hy5 => ?_
      refine JL_st (wants_none rfl) rfl (st_index 0 Try.underlying24 ti_88 rfl rfl rfl hy5) (fun q6 => ?_)
      refine JL_st (wants_none rfl) rfl (st_load_pt_o 0 (GRule.opens _) ti_88 rfl rfl) (fun _ => ?_)
      refine JL_bnd fun r8 hr9 => ?_
      refine JL_clo (wants_none rfl) rfl hp1 rfl rfl (fun w hh => (GRule.rdmk (Rd.mk_int _ _ _) (Rd.mk_int _ _ _) (Rd.mk_int _ _ _))) hr9 ?_
      refine JL_nil ?_
      refine N_then ?_
      refine J_if rfl (fun h10 => ?_) (fun h10 => ?_)
      · refine J_seq ?_
        refine J_region ?_
        refine JL_q (wants_none rfl) rfl (ex_move rfl) ?_
        refine JL_q (wants_none rfl) rfl (ex_assign rfl) ?_
        refine JL_nil ?_
        refine N_then ?_
        refine J_ret ?_
        refine N_block_ret ?_
        refine N_then_ret ?_
        refine N_round_ret ?_
        refine N_then_ret ?_
        exact N_ret1 rfl (rv_tmp rfl) (fun w hh => ⟨(), rfl, hh.sel [] rfl⟩)
      · refine J_skip ?_
        refine N_block ?_
        refine N_then ?_
        refine J_region ?_
        refine JL_q (wants_none rfl) rfl (ex_add rfl rfl) ?_
        refine JL_q (wants_none rfl) rfl (ex_move rfl) ?_
        refine JL_nil ?_
        exact N_next' () ⟨rfl, rfl, rfl, rfl, trivial⟩ [1] rfl rfl
    · refine J_exit ?_
      refine N_then_exit ?_
      exact N_break' () ⟨rfl, rfl, rfl, rfl, trivial⟩ [0] rfl rfl
  · refine N_then ?_
    refine J_seq ?_
    refine J_region ?_
    refine JL_q (wants_none rfl) rfl (ex_assign rfl) ?_
    refine JL_nil ?_
    refine N_then ?_
    refine J_ret ?_
    exact N_ret1 rfl (rv_tmp rfl) (fun w hh => ⟨(), rfl, hh.sel [] rfl⟩)

set_option maxHeartbeats 40000000 in
theorem c_slices_ContainsFunc_Simpl_Rule_impl_Rule (A : Nat → Prop) (w : World) (hA : ∀ k, A k → k < w.heap.size) (v0_ : Value) (p0 : (List GRule)) (hp0 : Rd A w v0_ p0) (v1_ : Value) (p1 : (GRule → Option Bool)) (hp1 : Clo Try.prog w v1_ p1 .bool) (r : Bool) (hr : F_slices_ContainsFunc_Simpl_Rule_impl_Rule p0 p1 = some r) :
    Con Try.prog 46 [v0_, v1_] A w (fun x_ : Unit => .bool r) (fun x_ => []) := by
  refine Con_of (v := fun (r : Bool) (x_ : Unit) => .bool r) (fs := fun r x_ => []) Try.func46 rfl Try.ntmps46 rfl ((SH.start hA).start_rd rfl hp0) rfl ?_ hr
  unfold F_slices_ContainsFunc_Simpl_Rule_impl_Rule
  refine J_seq ?_
  refine J_region ?_
  refine JL_q (wants_none rfl) rfl (ex_assign rfl) ?_
  refine JL_nil ?_
  refine N_then ?_
  refine J_seq ?_
  refine J_region ?_
  refine JL_q (wants_none rfl) rfl (ex_move rfl) ?_
  refine JL_q (wants_none rfl) rfl (ex_move rfl) ?_
  refine JL_bnd fun r1 hr2 => ?_
  refine JL_call (wants_none rfl) rfl Try.call92 rfl (Ca_of0 fun w hh => c_slices_IndexFunc_Simpl_Rule_impl_Rule _ w (fun _ hk => hk.elim) _ _ (hh.rd0 0 rfl) _ _ (hp1.later hh.below) _ hr2) (fun _ => ?_)
  refine JL_q (wants_none rfl) rfl (ex_geq rfl rfl) ?_
  refine JL_q (wants_none rfl) rfl (ex_assign rfl) ?_
  refine JL_nil ?_
  refine N_then ?_
  refine J_ret ?_
  exact N_ret1 rfl (rv_tmp rfl) (fun w hh => ⟨(), rfl, hh.sel [] rfl⟩)

set_option maxHeartbeats 40000000 in
theorem c_impl_ValidMachine (A : Nat → Prop) (w : World) (hA : ∀ k, A k → k < w.heap.size) (v0_ : Value) (p0 : GMachine) (hp0 : Rd A w v0_ p0) (r : Bool) (hr : F_impl_ValidMachine p0 = some r) :
    Con Try.prog 10 [v0_] A w (fun x_ : Unit => .bool r) (fun x_ => []) := by
  obtain ⟨v0_0, rfl, hp0_0⟩ := GMachine.open hp0
  refine Con_of (v := fun (r : Bool) (x_ : Unit) => .bool r) (fs := fun r x_ => []) Try.func10 rfl Try.ntmps10 rfl ((SH.start hA).start_rd rfl hp0_0) rfl ?_ hr
  unfold F_impl_ValidMachine
  refine J_seq ?_
  refine J_region ?_
  refine JL_st (wants_none rfl) rfl (st_box' rfl (fun w hh => (cv_aggs ⟨cv_int, cv_int, (hh.cv 0 rfl), trivial⟩))) (fun b1 => ?_)
  refine JL_q (wants_none rfl) rfl (ex_assign rfl) ?_
  refine JL_nil ?_
  refine N_then ?_
  refine J_seq ?_
  refine J_seq ?_
  refine J_draw [] (by kernel_rfl) ?_
  refine JP_take (i := 0) [0, 1] [] rfl (by kernel_rfl) (by kernel_rfl) (by kernel_rfl) rfl rfl (wants_none rfl) rfl (ex_fieldAddr fi_26_0 rfl rfl) ?_
  refine JP_take (i := 1) [0, 1] [] rfl (by kernel_rfl) (by kernel_rfl) (by kernel_rfl) rfl rfl (wants_none rfl) rfl (ex_load_bx 0 ti_2 rfl rfl rfl) ?_
  refine JP_go [0, 1] [] rfl rfl rfl (fun w3 h1_4 hp2 => ?_)
  refine JD_bnd fun r5 hr6 => ?_
  refine JD_one (i := 2) (by kernel_rfl) ?_
  refine JO_call rfl (wants_none rfl) rfl Try.call44 rfl (Ca_of0 fun w hh => c_impl_within _ w (fun _ hk => hk.elim) _ _ _ _ hr6) (fun _ => ?_)
  refine JD_take (i := 3) hp2 rfl (by kernel_rfl) (by kernel_rfl) (by kernel_rfl) (wants_none rfl) rfl (ex_not rfl) ?_
  refine JD_take (i := 4) hp2 rfl (by kernel_rfl) (by kernel_rfl) (by kernel_rfl) (wants_none rfl) rfl (ex_move rfl) ?_
  refine JD_cond (fun h7 => ?_) (fun h7 => ?_)
  · refine JD_pass (i := 5) rfl (by kernel_rfl) (by kernel_rfl) (by kernel_rfl) rfl rfl h7 rfl ?_
    refine JD_pass (i := 6) rfl (by kernel_rfl) (by kernel_rfl) (by kernel_rfl) rfl rfl h7 rfl ?_
    refine JD_pass (i := 7) rfl (by kernel_rfl) (by kernel_rfl) (by kernel_rfl) rfl rfl h7 rfl ?_
    refine JD_pass (i := 8) rfl (by kernel_rfl) (by kernel_rfl) (by kernel_rfl) rfl rfl h7 rfl ?_
    refine JD_take (i := 9) hp2 rfl (by kernel_rfl) (by kernel_rfl) (by kernel_rfl) (wants_none rfl) rfl (ex_pick_true rfl h7 rfl) ?_
    refine JD_take (i := 10) hp2 rfl (by kernel_rfl) (by kernel_rfl) (by kernel_rfl) (wants_none rfl) rfl (ex_move rfl) ?_
    refine JD_pass (i := 11) rfl (by kernel_rfl) (by kernel_rfl) (by kernel_rfl) rfl rfl rfl rfl ?_
    refine JD_pass (i := 12) rfl (by kernel_rfl) (by kernel_rfl) (by kernel_rfl) rfl rfl rfl rfl ?_
    refine JD_pass (i := 13) rfl (by kernel_rfl) (by kernel_rfl) (by kernel_rfl) rfl rfl rfl rfl ?_
    refine JD_pass (i := 14) rfl (by kernel_rfl) (by kernel_rfl) (by kernel_rfl) rfl rfl rfl rfl ?_
    refine JD_pass (i := 15) rfl (by kernel_rfl) (by kernel_rfl) (by kernel_rfl) rfl rfl rfl rfl ?_
    refine JD_pass (i := 16) rfl (by kernel_rfl) (by kernel_rfl) (by kernel_rfl) rfl rfl rfl rfl ?_
    refine JD_pass (i := 17) rfl (by kernel_rfl) (by kernel_rfl) (by kernel_rfl) rfl rfl rfl rfl ?_
    refine JD_pass (i := 18) rfl (by kernel_rfl) (by kernel_rfl) (by kernel_rfl) rfl rfl rfl rfl ?_
    refine JD_pass (i := 19) rfl (by kernel_rfl) (by kernel_rfl) (by kernel_rfl) rfl rfl rfl rfl ?_
    refine JD_take (i := 20) hp2 rfl (by kernel_rfl) (by kernel_rfl) (by kernel_rfl) (wants_none rfl) rfl (ex_pick_true rfl rfl rfl) ?_
    refine JD_done (by kernel_rfl) ?_
    refine N_then ?_
    refine J_if_true rfl rfl ?_
    refine J_seq ?_
    refine J_region ?_
    refine JL_q (wants_none rfl) rfl (ex_assign rfl) ?_
    refine JL_nil ?_
    refine N_then ?_
    refine J_ret ?_
    refine N_then_ret ?_
    exact N_ret1 rfl (rv_tmp rfl) (fun w hh => ⟨(), rfl, hh.sel [] rfl⟩)
  · refine JD_take (i := 5) hp2 rfl (by kernel_rfl) (by kernel_rfl) (by kernel_rfl) (wants_some rfl rfl rfl h7) rfl (ex_fieldAddr fi_26_1 rfl rfl) ?_
    refine JD_take (i := 6) hp2 rfl (by kernel_rfl) (by kernel_rfl) (by kernel_rfl) (wants_some rfl rfl rfl h7) rfl (ex_load_bx 0 ti_2 rfl rfl rfl) ?_
    refine JD_bnd fun r8 hr9 => ?_
    refine JD_one (i := 7) (by kernel_rfl) ?_
    refine JO_call rfl (wants_some rfl rfl rfl h7) rfl Try.call44 rfl (Ca_of0 fun w hh => c_impl_within _ w (fun _ hk => hk.elim) _ _ _ _ hr9) (fun _ => ?_)
    refine JD_take (i := 8) hp2 rfl (by kernel_rfl) (by kernel_rfl) (by kernel_rfl) (wants_some rfl rfl rfl h7) rfl (ex_not rfl) ?_
    refine JD_take (i := 9) hp2 rfl (by kernel_rfl) (by kernel_rfl) (by kernel_rfl) (wants_none rfl) rfl (ex_pick_false rfl h7 rfl) ?_
    refine JD_take (i := 10) hp2 rfl (by kernel_rfl) (by kernel_rfl) (by kernel_rfl) (wants_none rfl) rfl (ex_move rfl) ?_
    refine JD_cond (fun h10 => ?_) (fun h10 => ?_)
    · refine JD_pass (i := 11) rfl (by kernel_rfl) (by kernel_rfl) (by kernel_rfl) rfl rfl h10 rfl ?_
      refine JD_pass (i := 12) rfl (by kernel_rfl) (by kernel_rfl) (by kernel_rfl) rfl rfl h10 rfl ?_
      refine JD_pass (i := 13) rfl (by kernel_rfl) (by kernel_rfl) (by kernel_rfl) rfl rfl h10 rfl ?_
      refine JD_pass (i := 14) rfl (by kernel_rfl) (by kernel_rfl) (by kernel_rfl) rfl rfl h10 rfl ?_
      refine JD_pass (i := 15) rfl (by kernel_rfl) (by kernel_rfl) (by kernel_rfl) rfl rfl h10 rfl ?_
      refine JD_pass (i := 16) rfl (by kernel_rfl) (by kernel_rfl) (by kernel_rfl) rfl rfl h10 rfl ?_
      refine JD_pass (i := 17) rfl (by kernel_rfl) (by kernel_rfl) (by kernel_rfl) rfl rfl h10 rfl ?_
      refine JD_pass (i := 18) rfl (by kernel_rfl) (by kernel_rfl) (by kernel_rfl) rfl rfl h10 rfl ?_
      refine JD_pass (i := 19) rfl (by kernel_rfl) (by kernel_rfl) (by kernel_rfl) rfl rfl h10 rfl ?_
      refine JD_take (i := 20) hp2 rfl (by kernel_rfl) (by kernel_rfl) (by kernel_rfl) (wants_none rfl) rfl (ex_pick_true rfl h10 rfl) ?_
      refine JD_done (by kernel_rfl) ?_
      refine N_then ?_
      refine J_if_true rfl rfl ?_
      refine J_seq ?_
      refine J_region ?_
      refine JL_q (wants_none rfl) rfl (ex_assign rfl) ?_
      refine JL_nil ?_
      refine N_then ?_
      refine J_ret ?_
      refine N_then_ret ?_
      exact N_ret1 rfl (rv_tmp rfl) (fun w hh => ⟨(), rfl, hh.sel [] rfl⟩)
    · refine JD_take (i := 11) hp2 rfl (by kernel_rfl) (by kernel_rfl) (by kernel_rfl) (wants_some rfl rfl rfl h10) rfl (ex_fieldAddr fi_26_2 rfl rfl) ?_
      refine JD_take (i := 12) hp2 rfl (by kernel_rfl) (by kernel_rfl) (by kernel_rfl) (wants_some rfl rfl rfl h10) rfl (ex_load_bx 0 ti_24 rfl rfl rfl) ?_
      refine JD_take (i := 14) hp2 rfl (by kernel_rfl) (by kernel_rfl) (by kernel_rfl) (wants_some rfl rfl rfl h10) rfl (ex_fieldAddr fi_26_1 rfl rfl) ?_
      refine JD_take (i := 15) hp2 rfl (by kernel_rfl) (by kernel_rfl) (by kernel_rfl) (wants_some rfl rfl rfl h10) rfl (ex_load_bx 0 ti_2 rfl rfl rfl) ?_
      refine JD_take (i := 16) hp2 rfl (by kernel_rfl) (by kernel_rfl) (by kernel_rfl) (wants_some rfl rfl rfl h10) rfl (ex_fieldAddr fi_26_0 rfl rfl) ?_
      refine JD_take (i := 17) hp2 rfl (by kernel_rfl) (by kernel_rfl) (by kernel_rfl) (wants_some rfl rfl rfl h10) rfl (ex_load_bx 0 ti_2 rfl rfl rfl) ?_
      refine JD_take (i := 18) hp2 rfl (by kernel_rfl) (by kernel_rfl) (by kernel_rfl) (wants_some rfl rfl rfl h10) rfl (ex_mul rfl rfl) ?_
      refine JD_bnd fun r11 hr12 => ?_
      refine JD_one (i := 13) (by kernel_rfl) ?_
      refine JO_call rfl (wants_some rfl rfl rfl h10) rfl Try.call45 rfl (Ca_of0 fun w hh => c_impl_size_impl_Rule _ w (fun _ hk => hk.elim) _ _ (hh.rd0 1 rfl) _ hr12) (fun _ => ?_)
      refine JD_take (i := 19) hp2 rfl (by kernel_rfl) (by kernel_rfl) (by kernel_rfl) (wants_some rfl rfl rfl h10) rfl (ex_neq rfl rfl) ?_
      refine JD_take (i := 20) hp2 rfl (by kernel_rfl) (by kernel_rfl) (by kernel_rfl) (wants_none rfl) rfl (ex_pick_false rfl h10 rfl) ?_
      refine JD_done (by kernel_rfl) ?_
      refine N_then ?_
      refine J_if rfl (fun h13 => ?_) (fun h13 => ?_)
      · refine J_seq ?_
        refine J_region ?_
        refine JL_q (wants_none rfl) rfl (ex_assign rfl) ?_
        refine JL_nil ?_
        refine N_then ?_
        refine J_ret ?_
        refine N_then_ret ?_
        exact N_ret1 rfl (rv_tmp rfl) (fun w hh => ⟨(), rfl, hh.sel [] rfl⟩)
      · refine J_skip ?_
        refine N_then ?_
        refine J_seq ?_
        refine J_region ?_
        refine JL_q (wants_none rfl) rfl (ex_fieldAddr fi_26_2 rfl rfl) ?_
        refine JL_q (wants_none rfl) rfl (ex_load_bx 0 ti_24 rfl rfl rfl) ?_
        refine JL_q (wants_none rfl) rfl (ex_makeFunc rfl) ?_
        refine JL_bnd fun r14 hr15 => ?_
        refine JL_call (wants_none rfl) rfl Try.call46 rfl (Ca_of0 fun w hh => c_slices_ContainsFunc_Simpl_Rule_impl_Rule _ w (fun _ hk => hk.elim) _ _ (hh.rd0 1 rfl) _ _ (Clo.mk (caps := [.pointer (some ⟨b1, 0, none⟩)]) Try.call47 (fun w_ hb_ v_ x_ r_ hrd_ hr_ => c_impl_ValidMachine_1 nowhere w_ (fun _ hk => hk.elim) v_ x_ hrd_ _ _ ((hh.bx_pa 0 rfl (GMachine.rdmk (Rd.mk_int _ _ _) (Rd.mk_int _ _ _) (hh.rd0 1 rfl)) rfl).later hb_) _ hr_)) _ hr15) (fun _ => ?_)
        refine JL_q (wants_none rfl) rfl (ex_not rfl) ?_
        refine JL_q (wants_none rfl) rfl (ex_assign rfl) ?_
        refine JL_nil ?_
        refine N_then ?_
        refine J_ret ?_
        exact N_ret1 rfl (rv_tmp rfl) (fun w hh => ⟨(), rfl, hh.sel [] rfl⟩)

set_option maxHeartbeats 40000000 in
theorem c_impl_resting (A : Nat → Prop) (w : World) (hA : ∀ k, A k → k < w.heap.size) (p0 : Int) (r : GTile) (hr : F_impl_resting p0 = some r) :
    Con Try.prog 72 [.int .i64 p0] A w (fun x_ : Unit => .agg #[.int .i64 r.Left, .int .i64 r.Bottom, .int .i64 r.Right, .int .i64 r.Top]) (fun x_ => []) := by
  refine Con_of (v := fun (r : GTile) (x_ : Unit) => .agg #[.int .i64 r.Left, .int .i64 r.Bottom, .int .i64 r.Right, .int .i64 r.Top]) (fs := fun r x_ => []) Try.func72 rfl Try.ntmps72 rfl (SH.start hA) rfl ?_ hr
  unfold F_impl_resting
  refine J_seq ?_
  refine J_region ?_
  refine JL_st (wants_none rfl) rfl (st_alloc zi_108 rfl) (fun b1 => ?_)
  refine JL_nil ?_
  refine N_then ?_
  refine J_seq ?_
  refine J_region ?_
  refine JL_q (wants_none rfl) rfl (ex_move rfl) ?_
  refine JL_q (wants_none rfl) rfl (ex_move rfl) ?_
  refine JL_q (wants_none rfl) rfl (ex_build si_108 rfl (.cons fi_108_1 rfl rfl (.cons fi_108_3 rfl rfl .nil)) (fun w hh => ⟨cv_int, cv_int, trivial⟩)) ?_
  refine JL_sk (wants_none rfl) (sk_store_bx' 0 ti_108 rfl rfl (fun w hh => (cv_aggs ⟨cv_int, cv_int, cv_int, cv_int, trivial⟩)) rfl rfl rfl rfl) ?_
  refine JL_nil ?_
  refine N_then ?_
  refine J_ret ?_
  exact N_ret1 rfl (rv_cell 0 rfl rfl ti_108 rfl) (fun w hh => ⟨(), rfl, hh.sel [] rfl⟩)

set_option maxHeartbeats 40000000 in
theorem c_impl_headColor (A : Nat → Prop) (w : World) (hA : ∀ k, A k → k < w.heap.size) (v0_ : Value) (p0 : GMachine) (hp0 : Rd A w v0_ p0) (p1 : Int) (p2 : Int) (r : Int) (hr : F_impl_headColor p0 p1 p2 = some r) :
    Con Try.prog 70 [v0_, .int .i64 p1, .int .i64 p2] A w (fun x_ : Unit => .int .i64 r) (fun x_ => []) := by
  obtain ⟨v0_0, rfl, hp0_0⟩ := GMachine.open hp0
  refine Con_of (v := fun (r : Int) (x_ : Unit) => .int .i64 r) (fs := fun r x_ => []) Try.func70 rfl Try.ntmps70 rfl ((SH.start hA).start_rd rfl hp0_0) rfl ?_ hr
  unfold F_impl_headColor
  refine J_seq ?_
  refine J_region ?_
  refine JL_st (wants_none rfl) rfl (st_box' rfl (fun w hh => (cv_aggs ⟨cv_int, cv_int, (hh.cv 0 rfl), trivial⟩))) (fun b1 => ?_)
  refine JL_q (wants_none rfl) rfl (ex_assign rfl) ?_
  refine JL_nil ?_
  refine N_then ?_
  refine J_seq ?_
  refine J_region ?_
  refine JL_q (wants_none rfl) rfl (ex_fieldAddr fi_26_0 rfl rfl) ?_
  refine JL_q (wants_none rfl) rfl (ex_load_bx 0 ti_2 rfl rfl rfl) ?_
  refine JL_q (wants_none rfl) rfl (ex_move rfl) ?_
  refine JL_q (wants_none rfl) rfl (ex_add rfl rfl) ?_
  refine JL_q (wants_none rfl) rfl (ex_mul rfl rfl) ?_
  refine JL_q (wants_none rfl) rfl (ex_move rfl) ?_
  refine JL_q (wants_none rfl) rfl (ex_add rfl rfl) ?_
  refine JL_q (wants_none rfl) rfl (ex_assign rfl) ?_
  refine JL_nil ?_
  refine N_then ?_
  refine J_ret ?_
  exact N_ret1 rfl (rv_tmp rfl) (fun w hh => ⟨(), rfl, hh.sel [] rfl⟩)

set_option maxHeartbeats 40000000 in
theorem c_impl_passes (A : Nat → Prop) (w : World) (hA : ∀ k, A k → k < w.heap.size) (p0 : Int) (p1 : Int) (r : Int) (hr : F_impl_passes p0 p1 = some r) :
    Con Try.prog 124 [.int .i64 p0, .int .i64 p1] A w (fun x_ : Unit => .int .i64 r) (fun x_ => []) := by
  refine Con_of (v := fun (r : Int) (x_ : Unit) => .int .i64 r) (fs := fun r x_ => []) Try.func124 rfl Try.ntmps124 rfl (SH.start hA) rfl ?_ hr
  unfold F_impl_passes
  refine J_seq ?_
  refine J_region ?_
  refine JL_q (wants_none rfl) rfl (ex_assign rfl) ?_
  refine JL_nil ?_
  refine N_then ?_
  refine J_seq ?_
  refine J_seq ?_
  refine J_region ?_
  refine JL_q (wants_none rfl) rfl (ex_move rfl) ?_
  refine JL_q (wants_none rfl) rfl (ex_eql rfl rfl) ?_
  refine JL_nil ?_
  refine N_then ?_
  refine J_if rfl (fun h1 => ?_) (fun h1 => ?_)
  · refine J_seq ?_
    refine J_region ?_
    refine JL_q (wants_none rfl) rfl (ex_move rfl) ?_
    refine JL_q (wants_none rfl) rfl (ex_mul rfl rfl) ?_
    refine JL_q (wants_none rfl) rfl (ex_add rfl rfl) ?_
    refine JL_q (wants_none rfl) rfl (ex_assign rfl) ?_
    refine JL_nil ?_
    refine N_then ?_
    refine J_ret ?_
    refine N_then_ret ?_
    exact N_ret1 rfl (rv_tmp rfl) (fun w hh => ⟨(), rfl, hh.sel [] rfl⟩)
  · refine J_skip ?_
    refine N_then ?_
    refine J_seq ?_
    refine J_region ?_
    refine JL_q (wants_none rfl) rfl (ex_move rfl) ?_
    refine JL_q (wants_none rfl) rfl (ex_mul rfl rfl) ?_
    refine JL_q (wants_none rfl) rfl (ex_add rfl rfl) ?_
    refine JL_q (wants_none rfl) rfl (ex_assign rfl) ?_
    refine JL_nil ?_
    refine N_then ?_
    refine J_ret ?_
    exact N_ret1 rfl (rv_tmp rfl) (fun w hh => ⟨(), rfl, hh.sel [] rfl⟩)

set_option maxHeartbeats 40000000 in
theorem c_impl_leaving (A : Nat → Prop) (w : World) (hA : ∀ k, A k → k < w.heap.size) (v0_ : Value) (p0 : GMachine) (hp0 : Rd A w v0_ p0) (p1 : Int) (p2 : Int) (v3_ : Value) (p3 : GRule) (hp3 : Rd A w v3_ p3) (r : GTile) (hr : F_impl_leaving p0 p1 p2 p3 = some r) :
    Con Try.prog 73 [v0_, .int .i64 p1, .int .i64 p2, v3_] A w (fun x_ : Unit => .agg #[.int .i64 r.Left, .int .i64 r.Bottom, .int .i64 r.Right, .int .i64 r.Top]) (fun x_ => []) := by
  obtain ⟨v0_0, rfl, hp0_0⟩ := GMachine.open hp0
  obtain rfl := GRule.open hp3
  refine Con_of (v := fun (r : GTile) (x_ : Unit) => .agg #[.int .i64 r.Left, .int .i64 r.Bottom, .int .i64 r.Right, .int .i64 r.Top]) (fs := fun r x_ => []) Try.func73 rfl Try.ntmps73 rfl ((SH.start hA).start_rd rfl hp0_0) rfl ?_ hr
  unfold F_impl_leaving
  refine J_seq ?_
  refine J_region ?_
  refine JL_st (wants_none rfl) rfl (st_box' rfl (fun w hh => (cv_aggs ⟨cv_int, cv_int, (hh.cv 0 rfl), trivial⟩))) (fun b1 => ?_)
  refine JL_st (wants_none rfl) rfl (st_box' rfl (fun w hh => (cv_aggs ⟨cv_int, cv_int, cv_int, trivial⟩))) (fun b2 => ?_)
  refine JL_st (wants_none rfl) rfl (st_alloc zi_108 rfl) (fun b3 => ?_)
  refine JL_nil ?_
  refine N_then ?_
  refine J_seq ?_
  refine J_draw [] (by kernel_rfl) ?_
  refine JP_take (i := 0) [0, 1, 2, 3] [] rfl (by kernel_rfl) (by kernel_rfl) (by kernel_rfl) rfl rfl (wants_none rfl) rfl (ex_load_bx_agg 2 ti_26 rfl rfl rfl rfl) ?_
  refine JP_take (i := 1) [0, 1, 2, 3] [] rfl (by kernel_rfl) (by kernel_rfl) (by kernel_rfl) rfl rfl (wants_none rfl) rfl (ex_move rfl) ?_
  refine JP_take (i := 2) [0, 1, 2, 3] [] rfl (by kernel_rfl) (by kernel_rfl) (by kernel_rfl) rfl rfl (wants_none rfl) rfl (ex_move rfl) ?_
  refine JP_take (i := 4) [0, 1, 2, 3] [] rfl (by kernel_rfl) (by kernel_rfl) (by kernel_rfl) rfl rfl (wants_none rfl) rfl (ex_fieldAddr fi_88_0 rfl rfl) ?_
  refine JP_take (i := 5) [0, 1, 2, 3] [] rfl (by kernel_rfl) (by kernel_rfl) (by kernel_rfl) rfl rfl (wants_none rfl) rfl (ex_load_bx 1 ti_2 rfl rfl rfl) ?_
  refine JP_go [0, 1, 2, 3] [] rfl rfl rfl (fun w5 h1_6 hp4 => ?_)
  refine JD_bnd fun r7 hr8 => ?_
  refine JD_two (i := 3) (j := 7) (by kernel_rfl) ?_ ?_
  · refine JO_call rfl (wants_none rfl) rfl Try.call70 rfl (Ca_of0 fun w hh => c_impl_headColor _ w (fun _ hk => hk.elim) _ _ (GMachine.rdmk (Rd.mk_int _ _ _) (Rd.mk_int _ _ _) (hh.rd0 3 rfl)) _ _ _ hr8) (fun _ => ?_)
    refine JD_take (i := 6) hp4 rfl (by kernel_rfl) (by kernel_rfl) (by kernel_rfl) (wants_none rfl) rfl (ex_build si_108 rfl (.cons fi_108_1 rfl rfl (.cons fi_108_3 rfl rfl .nil)) (fun w hh => ⟨cv_int, cv_int, trivial⟩)) ?_
    refine JD_one (i := 7) (by kernel_rfl) ?_
    refine JO_st rfl (wants_none rfl) rfl (st_alloc zi_108 rfl) (fun _ hk => nomatch hk) (fun b9 => ?_)
    refine JD_one (i := 8) (by kernel_rfl) ?_
    refine JO_sk2 0 [] [0, 1, 2, 3] [1, 2, 3, 4] rfl rfl rfl rfl rfl rfl (wants_none rfl) (sk_store_bx' 0 ti_108 rfl rfl (fun w hh => (cv_aggs ⟨cv_int, cv_int, cv_int, cv_int, trivial⟩)) rfl rfl rfl rfl) (fun _ hk => hk) ?_
    refine JD_done (by kernel_rfl) ?_
    refine N_then ?_
    refine J_seq ?_
    refine J_seq ?_
    refine J_region ?_
    refine JL_q (wants_none rfl) rfl (ex_fieldAddr fi_88_1 rfl rfl) ?_
    refine JL_q (wants_none rfl) rfl (ex_load_bx 2 ti_2 rfl rfl rfl) ?_
    refine JL_q (wants_none rfl) rfl (ex_eql rfl rfl) ?_
    refine JL_nil ?_
    refine N_then ?_
    refine J_if rfl (fun h10 => ?_) (fun h10 => ?_)
    · refine J_region ?_
      refine JL_q (wants_none rfl) rfl (ex_fieldAddr fi_88_2 rfl rfl) ?_
      refine JL_q (wants_none rfl) rfl (ex_load_bx 2 ti_2 rfl rfl rfl) ?_
      refine JL_bnd fun r11 hr12 => ?_
      refine JL_call (wants_none rfl) rfl Try.call124 rfl (Ca_of0 fun w hh => c_impl_passes _ w (fun _ hk => hk.elim) _ _ _ hr12) (fun _ => ?_)
      refine JL_q (wants_none rfl) rfl (ex_fieldAddr fi_108_2 rfl rfl) ?_
      refine JL_sk (wants_none rfl) (sk_store_bx' 0 ti_2 rfl rfl (fun w hh => cv_int) rfl rfl rfl rfl) ?_
      refine JL_nil ?_
      refine N_then ?_
      refine J_seq ?_
      refine J_region ?_
      refine JL_q (wants_none rfl) rfl (ex_load_bx_agg 0 ti_108 rfl rfl rfl rfl) ?_
      refine JL_sk (wants_none rfl) (sk_store_bx' 1 ti_108 rfl rfl (fun w hh => (cv_aggs ⟨cv_int, cv_int, cv_int, cv_int, trivial⟩)) rfl rfl rfl rfl) ?_
      refine JL_nil ?_
      refine N_then ?_
      refine J_ret ?_
      exact N_ret1 rfl (rv_cell 1 rfl rfl ti_108 rfl) (fun w hh => ⟨(), rfl, hh.sel [] rfl⟩)
    · refine J_region ?_
      refine JL_q (wants_none rfl) rfl (ex_fieldAddr fi_88_2 rfl rfl) ?_
      refine JL_q (wants_none rfl) rfl (ex_load_bx 2 ti_2 rfl rfl rfl) ?_
      refine JL_bnd fun r13 hr14 => ?_
      refine JL_call (wants_none rfl) rfl Try.call124 rfl (Ca_of0 fun w hh => c_impl_passes _ w (fun _ hk => hk.elim) _ _ _ hr14) (fun _ => ?_)
      refine JL_q (wants_none rfl) rfl (ex_fieldAddr fi_108_0 rfl rfl) ?_
      refine JL_sk (wants_none rfl) (sk_store_bx' 0 ti_2 rfl rfl (fun w hh => cv_int) rfl rfl rfl rfl) ?_
      refine JL_nil ?_
      refine N_then ?_
      refine J_seq ?_
      refine J_region ?_
      refine JL_q (wants_none rfl) rfl (ex_load_bx_agg 0 ti_108 rfl rfl rfl rfl) ?_
      refine JL_sk (wants_none rfl) (sk_store_bx' 1 ti_108 rfl rfl (fun w hh => (cv_aggs ⟨cv_int, cv_int, cv_int, cv_int, trivial⟩)) rfl rfl rfl rfl) ?_
      refine JL_nil ?_
      refine N_then ?_
      refine J_ret ?_
      exact N_ret1 rfl (rv_cell 1 rfl rfl ti_108 rfl) (fun w hh => ⟨(), rfl, hh.sel [] rfl⟩)
  · refine JO_st rfl (wants_none rfl) rfl (st_alloc zi_108 rfl) (fun _ hk => nomatch hk) (fun b15 => ?_)
    refine JD_one (i := 3) (by kernel_rfl) ?_
    refine JO_call rfl (wants_none rfl) rfl Try.call70 rfl (Ca_of0 fun w hh => c_impl_headColor _ w (fun _ hk => hk.elim) _ _ (GMachine.rdmk (Rd.mk_int _ _ _) (Rd.mk_int _ _ _) (hh.rd0 4 rfl)) _ _ _ hr8) (fun _ => ?_)
    refine JD_take (i := 6) hp4 rfl (by kernel_rfl) (by kernel_rfl) (by kernel_rfl) (wants_none rfl) rfl (ex_build si_108 rfl (.cons fi_108_1 rfl rfl (.cons fi_108_3 rfl rfl .nil)) (fun w hh => ⟨cv_int, cv_int, trivial⟩)) ?_
    refine JD_one (i := 8) (by kernel_rfl) ?_
    refine JO_sk2 0 [] [0, 1, 2, 3] [1, 2, 3, 4] rfl rfl rfl rfl rfl rfl (wants_none rfl) (sk_store_bx' 0 ti_108 rfl rfl (fun w hh => (cv_aggs ⟨cv_int, cv_int, cv_int, cv_int, trivial⟩)) rfl rfl rfl rfl) (fun _ hk => hk) ?_
    refine JD_done (by kernel_rfl) ?_
    refine N_then ?_
    refine J_seq ?_
    refine J_seq ?_
    refine J_region ?_
    refine JL_q (wants_none rfl) rfl (ex_fieldAddr fi_88_1 rfl rfl) ?_
    refine JL_q (wants_none rfl) rfl (ex_load_bx 2 ti_2 rfl rfl rfl) ?_
    refine JL_q (wants_none rfl) rfl (ex_eql rfl rfl) ?_
    refine JL_nil ?_
    refine N_then ?_
    refine J_if rfl (fun h16 => ?_) (fun h16 => ?_)
    · refine J_region ?_
      refine JL_q (wants_none rfl) rfl (ex_fieldAddr fi_88_2 rfl rfl) ?_
      refine JL_q (wants_none rfl) rfl (ex_load_bx 2 ti_2 rfl rfl rfl) ?_
      refine JL_bnd fun r17 hr18 => ?_
      refine JL_call (wants_none rfl) rfl Try.call124 rfl (Ca_of0 fun w hh => c_impl_passes _ w (fun _ hk => hk.elim) _ _ _ hr18) (fun _ => ?_)
      refine JL_q (wants_none rfl) rfl (ex_fieldAddr fi_108_2 rfl rfl) ?_
      refine JL_sk (wants_none rfl) (sk_store_bx' 0 ti_2 rfl rfl (fun w hh => cv_int) rfl rfl rfl rfl) ?_
      refine JL_nil ?_
      refine N_then ?_
      refine J_seq ?_
      refine J_region ?_
      refine JL_q (wants_none rfl) rfl (ex_load_bx_agg 0 ti_108 rfl rfl rfl rfl) ?_
      refine JL_sk (wants_none rfl) (sk_store_bx' 1 ti_108 rfl rfl (fun w hh => (cv_aggs ⟨cv_int, cv_int, cv_int, cv_int, trivial⟩)) rfl rfl rfl rfl) ?_
      refine JL_nil ?_
      refine N_then ?_
      refine J_ret ?_
      exact N_ret1 rfl (rv_cell 1 rfl rfl ti_108 rfl) (fun w hh => ⟨(), rfl, hh.sel [] rfl⟩)
    · refine J_region ?_
      refine JL_q (wants_none rfl) rfl (ex_fieldAddr fi_88_2 rfl rfl) ?_
      refine JL_q (wants_none rfl) rfl (ex_load_bx 2 ti_2 rfl rfl rfl) ?_
      refine JL_bnd fun r19 hr20 => ?_
      refine JL_call (wants_none rfl) rfl Try.call124 rfl (Ca_of0 fun w hh => c_impl_passes _ w (fun _ hk => hk.elim) _ _ _ hr20) (fun _ => ?_)
      refine JL_q (wants_none rfl) rfl (ex_fieldAddr fi_108_0 rfl rfl) ?_
      refine JL_sk (wants_none rfl) (sk_store_bx' 0 ti_2 rfl rfl (fun w hh => cv_int) rfl rfl rfl rfl) ?_
      refine JL_nil ?_
      refine N_then ?_
      refine J_seq ?_
      refine J_region ?_
      refine JL_q (wants_none rfl) rfl (ex_load_bx_agg 0 ti_108 rfl rfl rfl rfl) ?_
      refine JL_sk (wants_none rfl) (sk_store_bx' 1 ti_108 rfl rfl (fun w hh => (cv_aggs ⟨cv_int, cv_int, cv_int, cv_int, trivial⟩)) rfl rfl rfl rfl) ?_
      refine JL_nil ?_
      refine N_then ?_
      refine J_ret ?_
      exact N_ret1 rfl (rv_cell 1 rfl rfl ti_108 rfl) (fun w hh => ⟨(), rfl, hh.sel [] rfl⟩)

set_option maxHeartbeats 40000000 in
theorem c_impl_coming (A : Nat → Prop) (w : World) (hA : ∀ k, A k → k < w.heap.size) (v0_ : Value) (p0 : GMachine) (hp0 : Rd A w v0_ p0) (p1 : Int) (p2 : Int) (p3 : Int) (r : GTile) (hr : F_impl_coming p0 p1 p2 p3 = some r) :
    Con Try.prog 74 [v0_, .int .i64 p1, .int .i64 p2, .int .i64 p3] A w (fun x_ : Unit => .agg #[.int .i64 r.Left, .int .i64 r.Bottom, .int .i64 r.Right, .int .i64 r.Top]) (fun x_ => []) := by
  obtain ⟨v0_0, rfl, hp0_0⟩ := GMachine.open hp0
  refine Con_of (v := fun (r : GTile) (x_ : Unit) => .agg #[.int .i64 r.Left, .int .i64 r.Bottom, .int .i64 r.Right, .int .i64 r.Top]) (fs := fun r x_ => []) Try.func74 rfl Try.ntmps74 rfl ((SH.start hA).start_rd rfl hp0_0) rfl ?_ hr
  unfold F_impl_coming
  refine J_seq ?_
  refine J_region ?_
  refine JL_st (wants_none rfl) rfl (st_box' rfl (fun w hh => (cv_aggs ⟨cv_int, cv_int, (hh.cv 0 rfl), trivial⟩))) (fun b1 => ?_)
  refine JL_st (wants_none rfl) rfl (st_alloc zi_108 rfl) (fun b2 => ?_)
  refine JL_nil ?_
  refine N_then ?_
  refine J_seq ?_
  refine J_region ?_
  refine JL_q (wants_none rfl) rfl (ex_move rfl) ?_
  refine JL_q (wants_none rfl) rfl (ex_load_bx_agg 1 ti_26 rfl rfl rfl rfl) ?_
  refine JL_q (wants_none rfl) rfl (ex_move rfl) ?_
  refine JL_q (wants_none rfl) rfl (ex_move rfl) ?_
  refine JL_bnd fun r3 hr4 => ?_
  refine JL_call (wants_none rfl) rfl Try.call70 rfl (Ca_of0 fun w hh => c_impl_headColor _ w (fun _ hk => hk.elim) _ _ (GMachine.rdmk (Rd.mk_int _ _ _) (Rd.mk_int _ _ _) (hh.rd0 2 rfl)) _ _ _ hr4) (fun _ => ?_)
  refine JL_q (wants_none rfl) rfl (ex_build si_108 rfl (.cons fi_108_1 rfl rfl (.cons fi_108_3 rfl rfl .nil)) (fun w hh => ⟨cv_int, cv_int, trivial⟩)) ?_
  refine JL_st (wants_none rfl) rfl (st_alloc zi_108 rfl) (fun b5 => ?_)
  refine JL_sk (wants_none rfl) (sk_store_bx' 0 ti_108 rfl rfl (fun w hh => (cv_aggs ⟨cv_int, cv_int, cv_int, cv_int, trivial⟩)) rfl rfl rfl rfl) ?_
  refine JL_nil ?_
  refine N_then ?_
  refine J_seq ?_
  refine J_seq ?_
  refine J_region ?_
  refine JL_q (wants_none rfl) rfl (ex_move rfl) ?_
  refine JL_q (wants_none rfl) rfl (ex_eql rfl rfl) ?_
  refine JL_nil ?_
  refine N_then ?_
  refine J_if rfl (fun h6 => ?_) (fun h6 => ?_)
  · refine J_region ?_
    refine JL_q (wants_none rfl) rfl (ex_move rfl) ?_
    refine JL_bnd fun r7 hr8 => ?_
    refine JL_call (wants_none rfl) rfl Try.call124 rfl (Ca_of0 fun w hh => c_impl_passes _ w (fun _ hk => hk.elim) _ _ _ hr8) (fun _ => ?_)
    refine JL_q (wants_none rfl) rfl (ex_fieldAddr fi_108_0 rfl rfl) ?_
    refine JL_sk (wants_none rfl) (sk_store_bx' 0 ti_2 rfl rfl (fun w hh => cv_int) rfl rfl rfl rfl) ?_
    refine JL_nil ?_
    refine N_then ?_
    refine J_seq ?_
    refine J_region ?_
    refine JL_q (wants_none rfl) rfl (ex_load_bx_agg 0 ti_108 rfl rfl rfl rfl) ?_
    refine JL_sk (wants_none rfl) (sk_store_bx' 1 ti_108 rfl rfl (fun w hh => (cv_aggs ⟨cv_int, cv_int, cv_int, cv_int, trivial⟩)) rfl rfl rfl rfl) ?_
    refine JL_nil ?_
    refine N_then ?_
    refine J_ret ?_
    exact N_ret1 rfl (rv_cell 1 rfl rfl ti_108 rfl) (fun w hh => ⟨(), rfl, hh.sel [] rfl⟩)
  · refine J_region ?_
    refine JL_q (wants_none rfl) rfl (ex_move rfl) ?_
    refine JL_bnd fun r9 hr10 => ?_
    refine JL_call (wants_none rfl) rfl Try.call124 rfl (Ca_of0 fun w hh => c_impl_passes _ w (fun _ hk => hk.elim) _ _ _ hr10) (fun _ => ?_)
    refine JL_q (wants_none rfl) rfl (ex_fieldAddr fi_108_2 rfl rfl) ?_
    refine JL_sk (wants_none rfl) (sk_store_bx' 0 ti_2 rfl rfl (fun w hh => cv_int) rfl rfl rfl rfl) ?_
    refine JL_nil ?_
    refine N_then ?_
    refine J_seq ?_
    refine J_region ?_
    refine JL_q (wants_none rfl) rfl (ex_load_bx_agg 0 ti_108 rfl rfl rfl rfl) ?_
    refine JL_sk (wants_none rfl) (sk_store_bx' 1 ti_108 rfl rfl (fun w hh => (cv_aggs ⟨cv_int, cv_int, cv_int, cv_int, trivial⟩)) rfl rfl rfl rfl) ?_
    refine JL_nil ?_
    refine N_then ?_
    refine J_ret ?_
    exact N_ret1 rfl (rv_cell 1 rfl rfl ti_108 rfl) (fun w hh => ⟨(), rfl, hh.sel [] rfl⟩)

end Go.Proofs.Ytgojoooilijiiaa
