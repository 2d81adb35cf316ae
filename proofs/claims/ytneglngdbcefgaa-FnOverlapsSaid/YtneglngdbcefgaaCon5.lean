/-
  Each function of the program computes what its plain function says: printed by program. No condition.
-/
import Derived.Test.YtneglngdbcefgaaFn
import Derived.Test.YtneglngdbcefgaaInf
import Derived.Test.YtneglngdbcefgaaCon2
import Derived.Test.YtneglngdbcefgaaCon3
namespace Go.Proofs.Ytneglngdbcefgaa
open Go Go.Tc Go.Fn
set_option linter.unusedVariables false

set_option maxHeartbeats 40000000 in
theorem c_laws_b10Long (A : Nat → Prop) (w : World) (hA : ∀ k, A k → k < w.heap.size) (v0_ : Value) (p0 : (List (Ik .u8))) (hp0 : Rd A w v0_ p0) (r : Bool) (hr : F_laws_b10Long p0 = some r) :
    Con Try.prog 18 [v0_] A w (fun x_ : Unit => .bool r) (fun x_ => []) := by
  refine Con_of (v := fun (r : Bool) (x_ : Unit) => .bool r) (fs := fun r x_ => []) Try.func18 rfl Try.ntmps18 rfl ((SH.start hA).start_rd rfl hp0) rfl ?_ hr
  unfold F_laws_b10Long
  refine J_seq ?_
  refine J_region ?_
  refine JL_q (wants_none rfl) rfl (ex_assign rfl) ?_
  refine JL_nil ?_
  refine N_then ?_
  refine J_seq ?_
  refine J_region ?_
  refine JL_q (wants_none rfl) rfl (ex_move rfl) ?_
  refine JL_q (wants_none rfl) rfl (ex_len_rd 0 Try.underlying38 rfl rfl) ?_
  refine JL_q (wants_none rfl) rfl (ex_gtr rfl rfl) ?_
  refine JL_q (wants_none rfl) rfl (ex_assign rfl) ?_
  refine JL_nil ?_
  refine N_then ?_
  refine J_ret ?_
  exact N_ret1 rfl (rv_tmp rfl) (fun w hh => ⟨(), rfl, hh.sel [] rfl⟩)

set_option maxHeartbeats 40000000 in
theorem c_spec_l00From (A : Nat → Prop) (w : World) (hA : ∀ k, A k → k < w.heap.size) (v0_ : Value) (p0 : (List (Ik .u8))) (hp0 : Rd A w v0_ p0) (r : ((List (Ik .u8)) × Int × (Ik .u64))) (hr : F_spec_l00From p0 = some r) :
    Con Try.prog 47 [v0_] A w (fun x_ : Value × Nat => .pointer (some ⟨x_.2, 0, none⟩)) (fun x_ => [.pr (Sub v0_ p0 x_.1 r.1), .bx x_.2 154 [x_.1, .int .i64 r.2.1, .int .u64 r.2.2.val]]) := by
  refine Con_of (v := fun (r : ((List (Ik .u8)) × Int × (Ik .u64))) (x_ : Value × Nat) => .pointer (some ⟨x_.2, 0, none⟩)) (fs := fun r x_ => [.pr (Sub v0_ p0 x_.1 r.1), .bx x_.2 154 [x_.1, .int .i64 r.2.1, .int .u64 r.2.2.val]]) Try.func47 rfl Try.ntmps47 rfl ((SH.start hA).start_rd rfl hp0) rfl ?_ hr
  unfold F_spec_l00From
  refine J_seq ?_
  refine J_region ?_
  refine JL_q (wants_none rfl) rfl (ex_assign rfl) ?_
  refine JL_nil ?_
  refine N_then ?_
  refine J_seq ?_
  refine J_region ?_
  refine JL_q (wants_none rfl) rfl (ex_move rfl) ?_
  refine JL_q (wants_none rfl) rfl (ex_build si_154 rfl (.cons fi_154_0 rfl rfl .nil) (fun w hh => ⟨(hh.cv 0 rfl), trivial⟩)) ?_
  refine JL_st (wants_none rfl) rfl (st_box' rfl (fun w hh => (cv_aggs ⟨(hh.cv 0 rfl), cv_int, cv_int, trivial⟩))) (fun b1 => ?_)
  refine JL_q (wants_none rfl) rfl (ex_assign rfl) ?_
  refine JL_nil ?_
  refine N_then ?_
  refine J_ret ?_
  refine N_ctx (fun w hh => hh.cons_pr (p := Sub v0_ p0 v0_ p0) Sub.refl) ?_
  exact N_ret1 rfl (rv_tmp rfl) (fun w hh => ⟨(v0_, b1), rfl, hh.sel [0, 1] rfl⟩)

set_option maxHeartbeats 40000000 in
theorem c_spec_l00Src_next (w : World) (b0_ : Nat) (p0 : Gl00Src) (v0_0 : Value) (B_ : List Nat) (hB_ : Ctx.owns [.bx b0_ 154 [v0_0, .int .i64 p0.at_, .int .u64 p0.seed.val]] = B_) (hn_ : PHanded w [.bx b0_ 154 [v0_0, .int .i64 p0.at_, .int .u64 p0.seed.val]]) (hp0_0 : Rd (fun k => k ∈ B_) w v0_0 p0.code) (r : (Int) × (Int × (Ik .u64))) (hr : F_spec_l00Src_next p0 = some r) :
    PtrCon Try.prog 91 [.pointer (some ⟨b0_, 0, none⟩)] w B_ (fun x_ : Unit => .int .i64 r.1) (fun x_ => [.bx b0_ 154 [v0_0, .int .i64 r.2.1, .int .u64 r.2.2.val]]) := by
  refine PtrCon_of (v := fun (r : (Int) × (Int × (Ik .u64))) (x_ : Unit) => .int .i64 r.1) (fs := fun r x_ => [.bx b0_ 154 [v0_0, .int .i64 r.2.1, .int .u64 r.2.2.val]]) Try.func91 rfl Try.ntmps91 rfl (show SH nowhere (bare w) w [.rd v0_0 p0.code, .bx b0_ 154 [v0_0, .int .i64 p0.at_, .int .u64 p0.seed.val], .tkn (.int .i64 0) (0 : Int) (restL w B_), rest w B_] from ((SH.begin hB_ hn_).cons_apart hB_ hp0_0)) rfl ?_ hr
  unfold F_spec_l00Src_next
  refine J_seq ?_
  refine J_region ?_
  refine JL_q (wants_none rfl) rfl (ex_assign rfl) ?_
  refine JL_nil ?_
  refine N_then ?_
  refine J_seq ?_
  refine J_region ?_
  refine JL_q (wants_none rfl) rfl (ex_assign rfl) ?_
  refine JL_nil ?_
  refine N_then ?_
  refine J_seq ?_
  refine J_cut' (S' := Int) (G' := Unit) (fun s1 _ => [(0, .pointer (some ⟨b0_, 0, none⟩)), (3, .int .i64 s1)]) (fun s1 _ => [rest w B_, .rd v0_0 p0.code, .bx b0_ 154 [v0_0, .int .i64 p0.at_, .int .u64 p0.seed.val], .tkn (.int .i64 0) (0 : Int) (restL w B_)]) ?_ (fun s1 g2 => ?_)
  · refine J_seq ?_
    refine J_draw [] (by kernel_rfl) ?_
    refine JP_take (i := 0) [0, 1, 2, 3] [] rfl (by kernel_rfl) (by kernel_rfl) (by kernel_rfl) rfl rfl (wants_none rfl) rfl (ex_move rfl) ?_
    refine JP_take (i := 1) [0, 1, 2, 3] [] rfl (by kernel_rfl) (by kernel_rfl) (by kernel_rfl) rfl rfl (wants_none rfl) rfl (ex_nilCheck rfl) ?_
    refine JP_take (i := 2) [0, 1, 2, 3] [] rfl (by kernel_rfl) (by kernel_rfl) (by kernel_rfl) rfl rfl (wants_none rfl) rfl (ex_fieldAddr fi_154_1 rfl rfl) ?_
    refine JP_take (i := 3) [0, 1, 2, 3] [] rfl (by kernel_rfl) (by kernel_rfl) (by kernel_rfl) rfl rfl (wants_none rfl) rfl (ex_load_bx 1 ti_3 rfl rfl rfl) ?_
    refine JP_take (i := 4) [0, 1, 2, 3] [] rfl (by kernel_rfl) (by kernel_rfl) (by kernel_rfl) rfl rfl (wants_none rfl) rfl (ex_move rfl) ?_
    refine JP_take (i := 5) [0, 1, 2, 3] [] rfl (by kernel_rfl) (by kernel_rfl) (by kernel_rfl) rfl rfl (wants_none rfl) rfl (ex_nilCheck rfl) ?_
    refine JP_take (i := 6) [0, 1, 2, 3] [] rfl (by kernel_rfl) (by kernel_rfl) (by kernel_rfl) rfl rfl (wants_none rfl) rfl (ex_fieldAddr fi_154_0 rfl rfl) ?_
    refine JP_take (i := 7) [0, 1, 2, 3] [] rfl (by kernel_rfl) (by kernel_rfl) (by kernel_rfl) rfl rfl (wants_none rfl) rfl (ex_load_bx 1 ti_38 rfl rfl rfl) ?_
    refine JP_take (i := 8) [0, 1, 2, 3] [] rfl (by kernel_rfl) (by kernel_rfl) (by kernel_rfl) rfl rfl (wants_none rfl) rfl (ex_len_rd 0 Try.underlying38 rfl rfl) ?_
    refine JP_take (i := 9) [0, 1, 2, 3] [] rfl (by kernel_rfl) (by kernel_rfl) (by kernel_rfl) rfl rfl (wants_none rfl) rfl (ex_lss rfl rfl) ?_
    refine JP_go [] [] rfl rfl rfl (fun _ _ _ => ?_)
    refine JD_done (by kernel_rfl) ?_
    refine N_then ?_
    refine J_if rfl (fun h3 => ?_) (fun h3 => ?_)
    · refine J_draw [] (by kernel_rfl) ?_
      refine JP_take (i := 0) [0, 1, 2, 3] [] rfl (by kernel_rfl) (by kernel_rfl) (by kernel_rfl) rfl rfl (wants_none rfl) rfl (ex_move rfl) ?_
      refine JP_take (i := 1) [0, 1, 2, 3] [] rfl (by kernel_rfl) (by kernel_rfl) (by kernel_rfl) rfl rfl (wants_none rfl) rfl (ex_nilCheck rfl) ?_
      refine JP_take (i := 2) [0, 1, 2, 3] [] rfl (by kernel_rfl) (by kernel_rfl) (by kernel_rfl) rfl rfl (wants_none rfl) rfl (ex_fieldAddr fi_154_0 rfl rfl) ?_
      refine JP_take (i := 3) [0, 1, 2, 3] [] rfl (by kernel_rfl) (by kernel_rfl) (by kernel_rfl) rfl rfl (wants_none rfl) rfl (ex_load_bx 1 ti_38 rfl rfl rfl) ?_
      refine JP_take (i := 4) [0, 1, 2, 3] [] rfl (by kernel_rfl) (by kernel_rfl) (by kernel_rfl) rfl rfl (wants_none rfl) rfl (ex_move rfl) ?_
      refine JP_take (i := 5) [0, 1, 2, 3] [] rfl (by kernel_rfl) (by kernel_rfl) (by kernel_rfl) rfl rfl (wants_none rfl) rfl (ex_nilCheck rfl) ?_
      refine JP_take (i := 6) [0, 1, 2, 3] [] rfl (by kernel_rfl) (by kernel_rfl) (by kernel_rfl) rfl rfl (wants_none rfl) rfl (ex_fieldAddr fi_154_1 rfl rfl) ?_
      refine JP_take (i := 7) [0, 1, 2, 3] [] rfl (by kernel_rfl) (by kernel_rfl) (by kernel_rfl) rfl rfl (wants_none rfl) rfl (ex_load_bx 1 ti_3 rfl rfl rfl) ?_
      refine JP_bnd fun y4 hy5 => ?_
      refine JP_sq (i := 8) [] rfl (by kernel_rfl) (by kernel_rfl) (by kernel_rfl) rfl (wants_none rfl) rfl (sq_index 0 Try.underlying38 ti_5 rfl rfl rfl hy5) (fun q6 => ?_)
      refine JP_sq (i := 9) [] rfl (by kernel_rfl) (by kernel_rfl) (by kernel_rfl) rfl (wants_none rfl) rfl (sq_load_pt_o 0 (opens_ik _) ti_5 rfl rfl) (fun _ => ?_)
      refine JP_take (i := 10) [0, 1, 2, 3, 4] [] rfl (by kernel_rfl) (by kernel_rfl) (by kernel_rfl) rfl rfl (wants_none rfl) rfl (ex_conv_i64 Try.underlying5 Try.underlying3 rfl) ?_
      refine JP_take (i := 11) [0, 1, 2, 3, 4] [] rfl (by kernel_rfl) (by kernel_rfl) (by kernel_rfl) rfl rfl (wants_none rfl) rfl (ex_assign rfl) ?_
      refine JP_go [] [] rfl rfl rfl (fun _ _ _ => ?_)
      refine JD_done (by kernel_rfl) ?_
      exact N_meet' () ⟨rfl, rfl, trivial⟩ [4, 1, 2, 3] rfl rfl
    · refine J_skip ?_
      exact N_meet' () ⟨rfl, rfl, trivial⟩ [3, 0, 1, 2] rfl rfl
  · refine N_then ?_
    refine J_seq ?_
    refine J_region ?_
    refine JL_q (wants_none rfl) rfl (ex_move rfl) ?_
    refine JL_q (wants_none rfl) rfl (ex_nilCheck rfl) ?_
    refine JL_q (wants_none rfl) rfl (ex_fieldAddr fi_154_1 rfl rfl) ?_
    refine JL_q (wants_none rfl) rfl (ex_load_bx 2 ti_3 rfl rfl rfl) ?_
    refine JL_q (wants_none rfl) rfl (ex_add rfl rfl) ?_
    refine JL_q (wants_none rfl) rfl (ex_nilCheck rfl) ?_
    refine JL_q (wants_none rfl) rfl (ex_fieldAddr fi_154_1 rfl rfl) ?_
    refine JL_sk (wants_none rfl) (sk_store_bx' 2 ti_3 rfl rfl (fun w hh => cv_int) rfl rfl rfl rfl) ?_
    refine JL_nil ?_
    refine N_then ?_
    refine J_seq ?_
    refine J_region ?_
    refine JL_q (wants_none rfl) rfl (ex_move rfl) ?_
    refine JL_q (wants_none rfl) rfl (ex_move rfl) ?_
    refine JL_q (wants_none rfl) rfl (ex_nilCheck rfl) ?_
    refine JL_q (wants_none rfl) rfl (ex_fieldAddr fi_154_2 rfl rfl) ?_
    refine JL_q (wants_none rfl) rfl (ex_load_bx 2 ti_152 rfl rfl rfl) ?_
    refine JL_q (wants_none rfl) rfl (ex_mulk rfl rfl) ?_
    refine JL_q (wants_none rfl) rfl (ex_move rfl) ?_
    refine JL_q (wants_none rfl) rfl (ex_conv_ik Try.underlying3 Try.underlying152 rfl) ?_
    refine JL_q (wants_none rfl) rfl (ex_addk rfl rfl) ?_
    refine JL_q (wants_none rfl) rfl (ex_addk rfl rfl) ?_
    refine JL_q (wants_none rfl) rfl (ex_nilCheck rfl) ?_
    refine JL_q (wants_none rfl) rfl (ex_fieldAddr fi_154_2 rfl rfl) ?_
    refine JL_sk (wants_none rfl) (sk_store_bx' 2 ti_152 rfl rfl (fun w hh => cv_int) rfl rfl rfl rfl) ?_
    refine JL_nil ?_
    refine N_then ?_
    refine J_seq ?_
    refine J_seq ?_
    refine J_draw [] (by kernel_rfl) ?_
    refine JP_take (i := 0) [0, 1, 2, 3] [] rfl (by kernel_rfl) (by kernel_rfl) (by kernel_rfl) rfl rfl (wants_none rfl) rfl (ex_move rfl) ?_
    refine JP_take (i := 1) [0, 1, 2, 3] [] rfl (by kernel_rfl) (by kernel_rfl) (by kernel_rfl) rfl rfl (wants_none rfl) rfl (ex_nilCheck rfl) ?_
    refine JP_take (i := 2) [0, 1, 2, 3] [] rfl (by kernel_rfl) (by kernel_rfl) (by kernel_rfl) rfl rfl (wants_none rfl) rfl (ex_fieldAddr fi_154_1 rfl rfl) ?_
    refine JP_take (i := 3) [0, 1, 2, 3] [] rfl (by kernel_rfl) (by kernel_rfl) (by kernel_rfl) rfl rfl (wants_none rfl) rfl (ex_load_bx 2 ti_3 rfl rfl rfl) ?_
    refine JP_take (i := 4) [0, 1, 2, 3] [] rfl (by kernel_rfl) (by kernel_rfl) (by kernel_rfl) rfl rfl (wants_none rfl) rfl (ex_move rfl) ?_
    refine JP_take (i := 5) [0, 1, 2, 3] [] rfl (by kernel_rfl) (by kernel_rfl) (by kernel_rfl) rfl rfl (wants_none rfl) rfl (ex_nilCheck rfl) ?_
    refine JP_take (i := 6) [0, 1, 2, 3] [] rfl (by kernel_rfl) (by kernel_rfl) (by kernel_rfl) rfl rfl (wants_none rfl) rfl (ex_fieldAddr fi_154_0 rfl rfl) ?_
    refine JP_take (i := 7) [0, 1, 2, 3] [] rfl (by kernel_rfl) (by kernel_rfl) (by kernel_rfl) rfl rfl (wants_none rfl) rfl (ex_load_bx 2 ti_38 rfl rfl rfl) ?_
    refine JP_take (i := 8) [0, 1, 2, 3] [] rfl (by kernel_rfl) (by kernel_rfl) (by kernel_rfl) rfl rfl (wants_none rfl) rfl (ex_len_rd 1 Try.underlying38 rfl rfl) ?_
    refine JP_take (i := 9) [0, 1, 2, 3] [] rfl (by kernel_rfl) (by kernel_rfl) (by kernel_rfl) rfl rfl (wants_none rfl) rfl (ex_leq rfl rfl) ?_
    refine JP_go [] [] rfl rfl rfl (fun _ _ _ => ?_)
    refine JD_done (by kernel_rfl) ?_
    refine N_then ?_
    refine J_if rfl (fun h8 => ?_) (fun h8 => ?_)
    · refine J_seq ?_
      refine J_region ?_
      refine JL_q (wants_none rfl) rfl (ex_move rfl) ?_
      refine JL_q (wants_none rfl) rfl (ex_assign rfl) ?_
      refine JL_nil ?_
      refine N_then ?_
      refine J_ret ?_
      refine N_then_ret ?_
      exact N_ret1 rfl (rv_tmp rfl) (fun w hh => ⟨(), rfl, hh.sel [2, 3, 0] rfl⟩)
    · refine J_skip ?_
      refine N_then ?_
      refine J_seq ?_
      refine J_region ?_
      refine JL_q (wants_none rfl) rfl (ex_move rfl) ?_
      refine JL_q (wants_none rfl) rfl (ex_nilCheck rfl) ?_
      refine JL_q (wants_none rfl) rfl (ex_fieldAddr fi_154_2 rfl rfl) ?_
      refine JL_q (wants_none rfl) rfl (ex_load_bx 2 ti_152 rfl rfl rfl) ?_
      refine JL_q (wants_none rfl) rfl (ex_shrk rfl rfl (by decide)) ?_
      refine JL_q (wants_none rfl) rfl (ex_andk rfl rfl) ?_
      refine JL_q (wants_none rfl) rfl (ex_conv_i64 Try.underlying152 Try.underlying2 rfl) ?_
      refine JL_q (wants_none rfl) rfl (ex_assign rfl) ?_
      refine JL_nil ?_
      refine N_then ?_
      refine J_ret ?_
      exact N_ret1 rfl (rv_tmp rfl) (fun w hh => ⟨(), rfl, hh.sel [2, 3, 0] rfl⟩)

set_option maxHeartbeats 40000000 in
theorem c_spec_l00Src_pick (w : World) (b0_ : Nat) (p0 : Gl00Src) (v0_0 : Value) (B_ : List Nat) (hB_ : Ctx.owns [.bx b0_ 154 [v0_0, .int .i64 p0.at_, .int .u64 p0.seed.val]] = B_) (hn_ : PHanded w [.bx b0_ 154 [v0_0, .int .i64 p0.at_, .int .u64 p0.seed.val]]) (hp0_0 : Rd (fun k => k ∈ B_) w v0_0 p0.code) (p1 : Int) (r : (Int) × (Int × (Ik .u64))) (hr : F_spec_l00Src_pick p0 p1 = some r) :
    PtrCon Try.prog 48 [.pointer (some ⟨b0_, 0, none⟩), .int .i64 p1] w B_ (fun x_ : Unit => .int .i64 r.1) (fun x_ => [.bx b0_ 154 [v0_0, .int .i64 r.2.1, .int .u64 r.2.2.val]]) := by
  refine PtrCon_of (v := fun (r : (Int) × (Int × (Ik .u64))) (x_ : Unit) => .int .i64 r.1) (fs := fun r x_ => [.bx b0_ 154 [v0_0, .int .i64 r.2.1, .int .u64 r.2.2.val]]) Try.func48 rfl Try.ntmps48 rfl (show SH nowhere (bare w) w [.rd v0_0 p0.code, .bx b0_ 154 [v0_0, .int .i64 p0.at_, .int .u64 p0.seed.val], .tkn (.int .i64 0) (0 : Int) (restL w B_), rest w B_] from ((SH.begin hB_ hn_).cons_apart hB_ hp0_0)) rfl ?_ hr
  unfold F_spec_l00Src_pick
  refine J_seq ?_
  refine J_region ?_
  refine JL_q (wants_none rfl) rfl (ex_assign rfl) ?_
  refine JL_nil ?_
  refine N_then ?_
  refine J_seq ?_
  refine J_seq ?_
  refine J_region ?_
  refine JL_q (wants_none rfl) rfl (ex_move rfl) ?_
  refine JL_q (wants_none rfl) rfl (ex_leq rfl rfl) ?_
  refine JL_nil ?_
  refine N_then ?_
  refine J_if rfl (fun h1 => ?_) (fun h1 => ?_)
  · refine J_seq ?_
    refine J_region ?_
    refine JL_q (wants_none rfl) rfl (ex_assign rfl) ?_
    refine JL_nil ?_
    refine N_then ?_
    refine J_ret ?_
    refine N_then_ret ?_
    exact N_ret1 rfl (rv_tmp rfl) (fun w hh => ⟨(), rfl, hh.sel [1, 2, 3] rfl⟩)
  · refine J_skip ?_
    refine N_then ?_
    refine J_seq ?_
    refine J_region ?_
    refine JL_q (wants_none rfl) rfl (ex_move rfl) ?_
    refine JL_bnd fun r2 hr3 => ?_
    refine JL_callT (wants_none rfl) rfl Try.call91 rfl (CaT_of [1] [0, 2, 3] rfl rfl (fun _ => rfl) fun w hh => c_spec_l00Src_next w b0_ p0 v0_0 _ rfl (hh.handed [1] rfl rfl rfl rfl) (hh.apart [1] rfl (hh.rd 0 rfl)) _ hr3) (fun _ => ?_)
    refine JL_q (wants_none rfl) rfl (ex_assign rfl) ?_
    refine JL_nil ?_
    refine N_then ?_
    refine J_seq ?_
    refine J_seq ?_
    refine J_region ?_
    refine JL_q (wants_none rfl) rfl (ex_move rfl) ?_
    refine JL_q (wants_none rfl) rfl (ex_gtr rfl rfl) ?_
    refine JL_nil ?_
    refine N_then ?_
    refine J_if rfl (fun h4 => ?_) (fun h4 => ?_)
    · refine J_region ?_
      refine JL_q (wants_none rfl) rfl (ex_move rfl) ?_
      refine JL_q (wants_none rfl) rfl (ex_mul rfl rfl) ?_
      refine JL_q (wants_none rfl) rfl (ex_move rfl) ?_
      refine JL_bnd fun r5 hr6 => ?_
      refine JL_callT (wants_none rfl) rfl Try.call91 rfl (CaT_of [0] [1, 2, 3] rfl rfl (fun _ => rfl) fun w hh => c_spec_l00Src_next w b0_ (⟨p0.code, r2.2.1, r2.2.2⟩ : Gl00Src) v0_0 _ rfl (hh.handed [0] rfl rfl rfl rfl) (hh.apart [0] rfl (hh.rd 1 rfl)) _ hr6) (fun _ => ?_)
      refine JL_q (wants_none rfl) rfl (ex_add rfl rfl) ?_
      refine JL_q (wants_none rfl) rfl (ex_assign rfl) ?_
      refine JL_nil ?_
      refine N_then ?_
      refine J_seq ?_
      refine J_region ?_
      refine JL_q (wants_none rfl) rfl (ex_move rfl) ?_
      refine JL_q (wants_none rfl) rfl (ex_move rfl) ?_
      refine JL_bnd fun u7 hu8 => ?_
      refine JL_q (wants_none rfl) rfl (ex_rem rfl rfl (nz_ne hu8)) ?_
      refine JL_q (wants_none rfl) rfl (ex_assign rfl) ?_
      refine JL_nil ?_
      refine N_then ?_
      refine J_ret ?_
      exact N_ret1 rfl (rv_tmp rfl) (fun w hh => ⟨(), rfl, hh.sel [0, 2, 3] rfl⟩)
    · refine J_skip ?_
      refine N_then ?_
      refine J_seq ?_
      refine J_region ?_
      refine JL_q (wants_none rfl) rfl (ex_move rfl) ?_
      refine JL_q (wants_none rfl) rfl (ex_move rfl) ?_
      refine JL_bnd fun u9 hu10 => ?_
      refine JL_q (wants_none rfl) rfl (ex_rem rfl rfl (nz_ne hu10)) ?_
      refine JL_q (wants_none rfl) rfl (ex_assign rfl) ?_
      refine JL_nil ?_
      refine N_then ?_
      refine J_ret ?_
      exact N_ret1 rfl (rv_tmp rfl) (fun w hh => ⟨(), rfl, hh.sel [0, 2, 3] rfl⟩)

set_option maxHeartbeats 40000000 in
theorem c_spec_l10DrawWord (w : World) (b0_ : Nat) (p0 : Gl00Src) (v0_0 : Value) (B_ : List Nat) (hB_ : Ctx.owns [.bx b0_ 154 [v0_0, .int .i64 p0.at_, .int .u64 p0.seed.val]] = B_) (hn_ : PHanded w [.bx b0_ 154 [v0_0, .int .i64 p0.at_, .int .u64 p0.seed.val]]) (hp0_0 : Rd (fun k => k ∈ B_) w v0_0 p0.code) (p1 : Int) (p2 : Int) (p3 : Int) (r : ((List Int)) × (Int × (Ik .u64))) (hr : F_spec_l10DrawWord p0 p1 p2 p3 = some r) :
    PtrCon Try.prog 49 [.pointer (some ⟨b0_, 0, none⟩), .int .i64 p1, .int .i64 p2, .int .i64 p3] w B_ (fun x_ : Value => x_) (fun x_ => [.ow 2 x_ r.1, .bx b0_ 154 [v0_0, .int .i64 r.2.1, .int .u64 r.2.2.val]]) := by
  refine PtrCon_of (v := fun (r : ((List Int)) × (Int × (Ik .u64))) (x_ : Value) => x_) (fs := fun r x_ => [.ow 2 x_ r.1, .bx b0_ 154 [v0_0, .int .i64 r.2.1, .int .u64 r.2.2.val]]) Try.func49 rfl Try.ntmps49 rfl (show SH nowhere (bare w) w [.rd v0_0 p0.code, .bx b0_ 154 [v0_0, .int .i64 p0.at_, .int .u64 p0.seed.val], .tkn (.int .i64 0) (0 : Int) (restL w B_), rest w B_] from ((SH.begin hB_ hn_).cons_apart hB_ hp0_0)) rfl ?_ hr
  unfold F_spec_l10DrawWord
  refine J_seq ?_
  refine J_region ?_
  refine JL_q (wants_none rfl) rfl (ex_assign rfl) ?_
  refine JL_nil ?_
  refine N_then ?_
  refine J_seq ?_
  refine J_region ?_
  refine JL_st (wants_none rfl) rfl (st_buildSlice (vs := []) ([] : List Int) Try.underlying23 ti_2 zi_2 rfl rfl rfl (fun w hh => trivial)) (fun b1 => ?_)
  refine JL_q (wants_none rfl) rfl (ex_assign rfl) ?_
  refine JL_nil ?_
  refine N_then ?_
  refine J_seq ?_
  refine J_seq ?_
  refine J_region ?_
  refine JL_q (wants_none rfl) rfl (ex_move rfl) ?_
  refine JL_q (wants_none rfl) rfl (ex_move rfl) ?_
  refine JL_q (wants_none rfl) rfl (ex_move rfl) ?_
  refine JL_q (wants_none rfl) rfl (ex_move rfl) ?_
  refine JL_q (wants_none rfl) rfl (ex_sub rfl rfl) ?_
  refine JL_q (wants_none rfl) rfl (ex_add rfl rfl) ?_
  refine JL_bnd fun r2 hr3 => ?_
  refine JL_callT (wants_none rfl) rfl Try.call48 rfl (CaT_of [2] [0, 1, 3, 4] rfl rfl (fun _ => rfl) fun w hh => c_spec_l00Src_pick w b0_ p0 v0_0 _ rfl (hh.handed [2] rfl rfl rfl rfl) (hh.apart [2] rfl (hh.rd 1 rfl)) _ _ hr3) (fun _ => ?_)
  refine JL_q (wants_none rfl) rfl (ex_add rfl rfl) ?_
  refine JL_q (wants_none rfl) rfl (ex_assign rfl) ?_
  refine JL_nil ?_
  refine N_then ?_
  refine J_loop' (S := Int × (Ik .u64) × (List Int) × Int) (G := Value) (F_spec_l10DrawWord_L1 p0 p3) (fun s4 g5 => [(0, .pointer (some ⟨b0_, 0, none⟩)), (3, .int .i64 p3), (9, g5), (10, .int .i64 s4.2.2.2)]) (fun s4 g5 => [rest w B_, .rd v0_0 p0.code, .bx b0_ 154 [v0_0, .int .i64 s4.1, .int .u64 s4.2.1.val], .ow 2 g5 s4.2.2.1, .tkn (.int .i64 0) (0 : Int) (restL w B_)]) (r2.2.1, r2.2.2, ([] : List Int), (w64 (p1 + r2.1))) (.slice (some ⟨b1, 0, none⟩) 0 0) ⟨rfl, rfl, rfl, rfl, trivial⟩ [4, 2, 0, 1, 3] rfl rfl (fun s4 g5 => ?_) (fun s4 g5 => ?_)
  · unfold F_spec_l10DrawWord_L1
    refine J_seq ?_
    refine J_seq ?_
    refine J_region ?_
    refine JL_q (wants_none rfl) rfl (ex_move rfl) ?_
    refine JL_q (wants_none rfl) rfl (ex_gtr rfl rfl) ?_
    refine JL_nil ?_
    refine N_then ?_
    refine J_if rfl (fun h6 => ?_) (fun h6 => ?_)
    · refine J_skip ?_
      refine N_then ?_
      refine J_seq ?_
      refine J_block ?_
      refine J_region ?_
      refine JL_q (wants_none rfl) rfl (ex_move rfl) ?_
      refine JL_q (wants_none rfl) rfl (ex_move rfl) ?_
      refine JL_q (wants_none rfl) rfl (ex_move rfl) ?_
      refine JL_bnd fun r7 hr8 => ?_
      refine JL_callT (wants_none rfl) rfl Try.call48 rfl (CaT_of [2] [0, 1, 3, 4] rfl rfl (fun _ => rfl) fun w hh => c_spec_l00Src_pick w b0_ (⟨p0.code, s4.1, s4.2.1⟩ : Gl00Src) v0_0 _ rfl (hh.handed [2] rfl rfl rfl rfl) (hh.apart [2] rfl (hh.rd 1 rfl)) _ _ hr8) (fun _ => ?_)
      refine JL_st (wants_none rfl) rfl (st_buildSlice (vs := [.int .i64 r7.1]) ([r7.1] : List Int) Try.underlying23 ti_2 zi_2 rfl rfl rfl (fun w hh => ⟨(Rd.mk_int _ _ _), trivial⟩)) (fun b9 => ?_)
      refine JL_bnd fun z10 hz11 => ?_
      refine JL_st (wants_none rfl) rfl (st_append 4 Try.underlying23 ti_2 zi_2 rfl bi_2 rfl rfl rfl rfl (fun w hh => hh.src_ow 0 rfl) hz11) (fun v12 => ?_)
      refine JL_q (wants_none rfl) rfl (ex_assign rfl) ?_
      refine JL_nil ?_
      refine N_block ?_
      refine N_then ?_
      refine J_region ?_
      refine JL_q (wants_none rfl) rfl (ex_move rfl) ?_
      refine JL_q (wants_none rfl) rfl (ex_sub rfl rfl) ?_
      refine JL_q (wants_none rfl) rfl (ex_assign rfl) ?_
      refine JL_nil ?_
      exact N_next' v12 ⟨rfl, rfl, rfl, rfl, trivial⟩ [2, 3, 1, 4, 5] rfl rfl
    · refine J_exit ?_
      refine N_then_exit ?_
      exact N_break' g5 ⟨rfl, rfl, rfl, rfl, trivial⟩ [0, 1, 2, 3, 4] rfl rfl
  · refine N_then ?_
    refine J_seq ?_
    refine J_region ?_
    refine JL_q (wants_none rfl) rfl (ex_move rfl) ?_
    refine JL_q (wants_none rfl) rfl (ex_assign rfl) ?_
    refine JL_nil ?_
    refine N_then ?_
    refine J_ret ?_
    exact N_ret1 rfl (rv_tmp rfl) (fun w hh => ⟨g5, rfl, hh.sel [3, 2, 4, 0] rfl⟩)

set_option maxHeartbeats 40000000 in
theorem c_spec_B10Shrinking (A : Nat → Prop) (w : World) (hA : ∀ k, A k → k < w.heap.size) (v0_ : Value) (p0 : (List (Ik .u8))) (hp0 : Rd A w v0_ p0) (r : (List GRewrite) × (List Int)) (hr : F_spec_B10Shrinking p0 = some r) :
    Con Try.prog 19 [v0_] A w (fun x_ : Value × List Nat × Value => .tuple #[x_.1, x_.2.2]) (fun x_ => [.od 80 x_.1 r.1 x_.2.1, .ow 2 x_.2.2 r.2]) := by
  refine Con_of (v := fun (r : (List GRewrite) × (List Int)) (x_ : Value × List Nat × Value) => .tuple #[x_.1, x_.2.2]) (fs := fun r x_ => [.od 80 x_.1 r.1 x_.2.1, .ow 2 x_.2.2 r.2]) Try.func19 rfl Try.ntmps19 rfl ((SH.start hA).start_rd rfl hp0) rfl ?_ hr
  unfold F_spec_B10Shrinking
  refine J_seq ?_
  refine J_region ?_
  refine JL_q (wants_none rfl) rfl (ex_assign rfl) ?_
  refine JL_q (wants_none rfl) rfl (ex_assign rfl) ?_
  refine JL_nil ?_
  refine N_then ?_
  refine J_seq ?_
  refine J_region ?_
  refine JL_q (wants_none rfl) rfl (ex_move rfl) ?_
  refine JL_bnd fun r1 hr2 => ?_
  refine JL_call (wants_none rfl) rfl Try.call47 rfl (Ca_self (fun _ => rfl) fun w hh => c_spec_l00From _ w (fun _ hk => hk.elim) _ _ (hh.rd0 0 rfl) _ hr2) (fun x3 => ?_)
  obtain ⟨x3_0, x3_1⟩ := x3
  refine JL_ctx (fun w hh => hh.sub_rd 2 rfl (hh.pr 0 rfl)) ?_
  refine JL_q (wants_none rfl) rfl (ex_assign rfl) ?_
  refine JL_nil ?_
  refine N_then ?_
  refine J_seq ?_
  refine J_region ?_
  refine JL_st (wants_none rfl) rfl (st_buildSlice_od (vs := []) (B := ([] : List Nat)) ([] : List GRewrite) [] Try.underlying28 ti_80 zi_80 rfl rfl rfl rfl rfl (fun w hh => dwv_nil)) (fun b4 => ?_)
  refine JL_q (wants_none rfl) rfl (ex_assign rfl) ?_
  refine JL_nil ?_
  refine N_then ?_
  refine J_seq ?_
  refine J_seq ?_
  refine J_region ?_
  refine JL_q (wants_none rfl) rfl (ex_move rfl) ?_
  refine JL_bnd fun r5 hr6 => ?_
  refine JL_callT (wants_none rfl) rfl Try.call48 rfl (CaT_of [3] [0, 1, 2, 4] rfl rfl (fun _ => rfl) fun w hh => c_spec_l00Src_pick w x3_1 (⟨r1.1, r1.2.1, r1.2.2⟩ : Gl00Src) x3_0 _ rfl (hh.handed [3] rfl rfl rfl rfl) (hh.apart [3] rfl (hh.rd 1 rfl)) _ _ hr6) (fun _ => ?_)
  refine JL_q (wants_none rfl) rfl (ex_add rfl rfl) ?_
  refine JL_q (wants_none rfl) rfl (ex_assign rfl) ?_
  refine JL_nil ?_
  refine N_then ?_
  refine J_loop' (S := Int × (Ik .u64) × (List GRewrite) × Int) (G := Value × List Nat) (F_spec_B10Shrinking_L1 r1) (fun s7 g8 => [(4, .pointer (some ⟨x3_1, 0, none⟩)), (5, g8.1), (6, .int .i64 s7.2.2.2)]) (fun s7 g8 => [.rd x3_0 r1.1, .pr (Sub v0_ p0 x3_0 r1.1), .bx x3_1 154 [x3_0, .int .i64 s7.1, .int .u64 s7.2.1.val], .od 80 g8.1 s7.2.2.1 g8.2]) (r5.2.1, r5.2.2, ([] : List GRewrite), (w64 (1 + r5.1))) ((.slice (some ⟨b4, 0, none⟩) 0 0), ([] : List Nat)) ⟨rfl, rfl, rfl, trivial⟩ [2, 3, 0, 1] rfl rfl (fun s7 g8 => ?_) (fun s7 g8 => ?_)
  · obtain ⟨g8_0, g8_1⟩ := g8
    unfold F_spec_B10Shrinking_L1
    refine J_seq ?_
    refine J_seq ?_
    refine J_region ?_
    refine JL_q (wants_none rfl) rfl (ex_move rfl) ?_
    refine JL_q (wants_none rfl) rfl (ex_gtr rfl rfl) ?_
    refine JL_nil ?_
    refine N_then ?_
    refine J_if rfl (fun h9 => ?_) (fun h9 => ?_)
    · refine J_skip ?_
      refine N_then ?_
      refine J_seq ?_
      refine J_block ?_
      refine J_seq ?_
      refine J_region ?_
      refine JL_q (wants_none rfl) rfl (ex_move rfl) ?_
      refine JL_bnd fun r10 hr11 => ?_
      refine JL_callT (wants_none rfl) rfl Try.call49 rfl (CaT_of [2] [0, 1, 3] rfl rfl (fun _ => rfl) fun w hh => c_spec_l10DrawWord w x3_1 (⟨r1.1, s7.1, s7.2.1⟩ : Gl00Src) x3_0 _ rfl (hh.handed [2] rfl rfl rfl rfl) (hh.apart [2] rfl (hh.rd 0 rfl)) _ _ _ _ hr11) (fun x12 => ?_)
      refine JL_q (wants_none rfl) rfl (ex_assign rfl) ?_
      refine JL_nil ?_
      refine N_then ?_
      refine J_region ?_
      refine JL_q (wants_none rfl) rfl (ex_move rfl) ?_
      refine JL_q (wants_none rfl) rfl (ex_move rfl) ?_
      refine JL_q (wants_none rfl) rfl (ex_move rfl) ?_
      refine JL_q (wants_none rfl) rfl (ex_move rfl) ?_
      refine JL_q (wants_none rfl) rfl (ex_len_ow 0 Try.underlying23 rfl rfl) ?_
      refine JL_q (wants_none rfl) rfl (ex_sub rfl rfl) ?_
      refine JL_bnd fun r13 hr14 => ?_
      refine JL_callT (wants_none rfl) rfl Try.call49 rfl (CaT_of [1] [0, 2, 3, 4] rfl rfl (fun _ => rfl) fun w hh => c_spec_l10DrawWord w x3_1 (⟨r1.1, r10.2.1, r10.2.2⟩ : Gl00Src) x3_0 _ rfl (hh.handed [1] rfl rfl rfl rfl) (hh.apart [1] rfl (hh.rd 2 rfl)) _ _ _ _ hr14) (fun x15 => ?_)
      refine JL_q (wants_none rfl) rfl (ex_build si_80 rfl (.cons fi_80_0 rfl rfl (.cons fi_80_1 rfl rfl .nil)) (fun w hh => ⟨(hh.cv_ow 2 rfl), (hh.cv_ow 0 rfl), trivial⟩)) ?_
      refine JL_ctx (fun w hh => hh.tokf 2 rfl rfl) ?_
      refine JL_ctx (fun w hh => hh.tokf 1 rfl rfl) ?_
      refine JL_st (wants_none rfl) rfl (st_buildSlice_od (vs := [.agg #[x12, x15]]) (B := (((x12 : Value).ownBlock.toList ++ []) ++ (((x15 : Value).ownBlock.toList ++ []) ++ []))) ([(⟨r10.1, r13.1⟩ : GRewrite)] : List GRewrite) [1, 0] Try.underlying28 ti_80 zi_80 rfl rfl rfl rfl rfl (fun w hh => (dwv_cons (GRewrite.dw (hh.dw 1 rfl) (hh.dw 0 rfl)) dwv_nil))) (fun b16 => ?_)
      refine JL_bnd fun z17 hz18 => ?_
      refine JL_st (wants_none rfl) rfl (st_append_od 8 0 Try.underlying28 ti_80 zi_80 rfl bi_80 rfl rfl rfl rfl rfl rfl hz18) (fun v19 => ?_)
      refine JL_q (wants_none rfl) rfl (ex_assign rfl) ?_
      refine JL_nil ?_
      refine N_block ?_
      refine N_then ?_
      refine J_region ?_
      refine JL_q (wants_none rfl) rfl (ex_move rfl) ?_
      refine JL_q (wants_none rfl) rfl (ex_sub rfl rfl) ?_
      refine JL_q (wants_none rfl) rfl (ex_assign rfl) ?_
      refine JL_nil ?_
      exact N_next' (v19, (g8_1 ++ (((x12 : Value).ownBlock.toList ++ []) ++ (((x15 : Value).ownBlock.toList ++ []) ++ [])))) ⟨rfl, rfl, rfl, trivial⟩ [6, 7, 4, 8] rfl rfl
    · refine J_exit ?_
      refine N_then_exit ?_
      exact N_break' (g8_0, g8_1) ⟨rfl, rfl, rfl, trivial⟩ [0, 1, 2, 3] rfl rfl
  · obtain ⟨g8_0, g8_1⟩ := g8
    refine N_then ?_
    refine J_seq ?_
    refine J_region ?_
    refine JL_q (wants_none rfl) rfl (ex_move rfl) ?_
    refine JL_q (wants_none rfl) rfl (ex_move rfl) ?_
    refine JL_bnd fun r20 hr21 => ?_
    refine JL_callT (wants_none rfl) rfl Try.call49 rfl (CaT_of [2] [0, 1, 3] rfl rfl (fun _ => rfl) fun w hh => c_spec_l10DrawWord w x3_1 (⟨r1.1, s7.1, s7.2.1⟩ : Gl00Src) x3_0 _ rfl (hh.handed [2] rfl rfl rfl rfl) (hh.apart [2] rfl (hh.rd 0 rfl)) _ _ _ _ hr21) (fun x22 => ?_)
    refine JL_q (wants_none rfl) rfl (ex_assign rfl) ?_
    refine JL_q (wants_none rfl) rfl (ex_assign rfl) ?_
    refine JL_nil ?_
    refine N_then ?_
    refine J_ret ?_
    exact N_ret2 rfl (rv_tmp rfl) (rv_tmp rfl) (fun w hh => ⟨(g8_0, g8_1, x22), rfl, hh.sel [4, 0] rfl⟩)

set_option maxHeartbeats 40000000 in
theorem c_impl_overlaps (A : Nat → Prop) (w : World) (hA : ∀ k, A k → k < w.heap.size) (v0_ : Value) (p0 : GRewrite) (hp0 : Rd A w v0_ p0) (v1_ : Value) (p1 : GRewrite) (hp1 : Rd A w v1_ p1) (p2 : Bool) (r : (List (List (List Int)))) (hr : F_impl_overlaps p0 p1 p2 = some r) :
    Con Try.prog 51 [v0_, v1_, .bool p2] A w (fun x_ : Value × List Nat => x_.1) (fun x_ => [.od 25 x_.1 r x_.2]) := by
  obtain ⟨v0_0, v0_1, rfl, hp0_0, hp0_1⟩ := GRewrite.open hp0
  obtain ⟨v1_0, v1_1, rfl, hp1_0, hp1_1⟩ := GRewrite.open hp1
  refine Con_of (v := fun (r : (List (List (List Int)))) (x_ : Value × List Nat) => x_.1) (fs := fun r x_ => [.od 25 x_.1 r x_.2]) Try.func51 rfl Try.ntmps51 rfl (((((SH.start hA).start_rd rfl hp0_0).start_rd rfl hp0_1).start_rd rfl hp1_0).start_rd rfl hp1_1) rfl ?_ hr
  unfold F_impl_overlaps
  refine J_seq ?_
  refine J_region ?_
  refine JL_st (wants_none rfl) rfl (st_box' rfl (fun w hh => (cv_aggs ⟨(hh.cv 3 rfl), (hh.cv 2 rfl), trivial⟩))) (fun b1 => ?_)
  refine JL_st (wants_none rfl) rfl (st_box' rfl (fun w hh => (cv_aggs ⟨(hh.cv 2 rfl), (hh.cv 1 rfl), trivial⟩))) (fun b2 => ?_)
  refine JL_q (wants_none rfl) rfl (ex_assign rfl) ?_
  refine JL_nil ?_
  refine N_then ?_
  refine J_seq ?_
  refine J_region ?_
  refine JL_st (wants_none rfl) rfl (st_buildSlice_od (vs := []) (B := ([] : List Nat)) ([] : List (List (List Int))) [] Try.underlying42 ti_25 zi_25 rfl rfl rfl rfl rfl (fun w hh => dwv_nil)) (fun b3 => ?_)
  refine JL_q (wants_none rfl) rfl (ex_assign rfl) ?_
  refine JL_nil ?_
  refine N_then ?_
  refine J_seq ?_
  refine J_seq ?_
  refine J_region ?_
  refine JL_q (wants_none rfl) rfl (ex_fieldAddr fi_80_0 rfl rfl) ?_
  refine JL_q (wants_none rfl) rfl (ex_load_bx 2 ti_23 rfl rfl rfl) ?_
  refine JL_q (wants_none rfl) rfl (ex_len_rd 6 Try.underlying23 rfl rfl) ?_
  refine JL_q (wants_none rfl) rfl (ex_fieldAddr fi_80_0 rfl rfl) ?_
  refine JL_q (wants_none rfl) rfl (ex_load_bx 1 ti_23 rfl rfl rfl) ?_
  refine JL_q (wants_none rfl) rfl (ex_len_rd 4 Try.underlying23 rfl rfl) ?_
  refine JL_q (wants_none rfl) rfl (ex_min rfl rfl) ?_
  refine JL_q (wants_none rfl) rfl (ex_assign rfl) ?_
  refine JL_nil ?_
  refine N_then ?_
  refine J_loop' (S := (List (List (List Int))) × Int) (G := Value × List Nat) (F_impl_overlaps_L1 p0 p1 p2) (fun s4 g5 => [(2, .bool p2), (3, .pointer (some ⟨b1, 0, none⟩)), (4, .pointer (some ⟨b2, 0, none⟩)), (7, g5.1), (8, .int .i64 s4.2)]) (fun s4 g5 => [.rd v0_0 p0.From, .rd v0_1 p0.To, .bx b1 80 [v0_0, v0_1], .rd v1_0 p1.From, .rd v1_1 p1.To, .bx b2 80 [v1_0, v1_1], .od 25 g5.1 s4.1 g5.2]) (([] : List (List (List Int))), (if (p1.From.length : Int) < (p0.From.length : Int) then (p1.From.length : Int) else (p0.From.length : Int))) ((.slice (some ⟨b3, 0, none⟩) 0 0), ([] : List Nat)) ⟨rfl, rfl, rfl, rfl, rfl, trivial⟩ [6, 5, 2, 4, 3, 1, 0] rfl rfl (fun s4 g5 => ?_) (fun s4 g5 => ?_)
  · obtain ⟨g5_0, g5_1⟩ := g5
    unfold F_impl_overlaps_L1
    refine J_seq ?_
    refine J_seq ?_
    refine J_region ?_
    refine JL_q (wants_none rfl) rfl (ex_move rfl) ?_
    refine JL_q (wants_none rfl) rfl (ex_geq rfl rfl) ?_
    refine JL_nil ?_
    refine N_then ?_
    refine J_if rfl (fun h6 => ?_) (fun h6 => ?_)
    · refine J_skip ?_
      refine N_then ?_
      refine J_seq ?_
      refine J_block ?_
      refine J_seq ?_
      refine J_seq ?_
      refine J_cut' (S' := Bool) (G' := Unit) (fun s7 _ => [(2, .bool p2), (3, .pointer (some ⟨b1, 0, none⟩)), (4, .pointer (some ⟨b2, 0, none⟩)), (7, g5_0), (8, .int .i64 s4.2), (45, .bool s7)]) (fun s7 _ => [.rd v0_0 p0.From, .rd v0_1 p0.To, .bx b1 80 [v0_0, v0_1], .rd v1_0 p1.From, .rd v1_1 p1.To, .bx b2 80 [v1_0, v1_1], .od 25 g5_0 s4.1 g5_1]) ?_ (fun s7 g8 => ?_)
      · refine J_draw [] (by kernel_rfl) ?_
        refine JP_take (i := 0) [0, 1, 2, 3, 4, 5, 6] [] rfl (by kernel_rfl) (by kernel_rfl) (by kernel_rfl) rfl rfl (wants_none rfl) rfl (ex_move rfl) ?_
        refine JP_take (i := 1) [0, 1, 2, 3, 4, 5, 6] [] rfl (by kernel_rfl) (by kernel_rfl) (by kernel_rfl) rfl rfl (wants_none rfl) rfl (ex_move rfl) ?_
        refine JP_cond (fun h9 => ?_) (fun h9 => ?_)
        · refine JP_take (i := 2) [0, 1, 2, 3, 4, 5, 6] [] rfl (by kernel_rfl) (by kernel_rfl) (by kernel_rfl) rfl rfl (wants_some rfl rfl rfl h9) rfl (ex_move rfl) ?_
          refine JP_take (i := 3) [0, 1, 2, 3, 4, 5, 6] [] rfl (by kernel_rfl) (by kernel_rfl) (by kernel_rfl) rfl rfl (wants_some rfl rfl rfl h9) rfl (ex_fieldAddr fi_80_0 rfl rfl) ?_
          refine JP_take (i := 4) [0, 1, 2, 3, 4, 5, 6] [] rfl (by kernel_rfl) (by kernel_rfl) (by kernel_rfl) rfl rfl (wants_some rfl rfl rfl h9) rfl (ex_load_bx 2 ti_23 rfl rfl rfl) ?_
          refine JP_take (i := 5) [0, 1, 2, 3, 4, 5, 6] [] rfl (by kernel_rfl) (by kernel_rfl) (by kernel_rfl) rfl rfl (wants_some rfl rfl rfl h9) rfl (ex_len_rd 0 Try.underlying23 rfl rfl) ?_
          refine JP_take (i := 6) [0, 1, 2, 3, 4, 5, 6] [] rfl (by kernel_rfl) (by kernel_rfl) (by kernel_rfl) rfl rfl (wants_some rfl rfl rfl h9) rfl (ex_eql rfl rfl) ?_
          refine JP_take (i := 7) [0, 1, 2, 3, 4, 5, 6] [] rfl (by kernel_rfl) (by kernel_rfl) (by kernel_rfl) rfl rfl (wants_none rfl) rfl (ex_pick_true rfl h9 rfl) ?_
          refine JP_take (i := 8) [0, 1, 2, 3, 4, 5, 6] [] rfl (by kernel_rfl) (by kernel_rfl) (by kernel_rfl) rfl rfl (wants_none rfl) rfl (ex_move rfl) ?_
          refine JP_cond (fun h10 => ?_) (fun h10 => ?_)
          · refine JP_pass (i := 9) rfl (by kernel_rfl) (by kernel_rfl) (by kernel_rfl) rfl rfl h10 rfl ?_
            refine JP_pass (i := 10) rfl (by kernel_rfl) (by kernel_rfl) (by kernel_rfl) rfl rfl h10 rfl ?_
            refine JP_pass (i := 11) rfl (by kernel_rfl) (by kernel_rfl) (by kernel_rfl) rfl rfl h10 rfl ?_
            refine JP_pass (i := 12) rfl (by kernel_rfl) (by kernel_rfl) (by kernel_rfl) rfl rfl h10 rfl ?_
            refine JP_pass (i := 13) rfl (by kernel_rfl) (by kernel_rfl) (by kernel_rfl) rfl rfl h10 rfl ?_
            refine JP_pass (i := 14) rfl (by kernel_rfl) (by kernel_rfl) (by kernel_rfl) rfl rfl h10 rfl ?_
            refine JP_pass (i := 15) rfl (by kernel_rfl) (by kernel_rfl) (by kernel_rfl) rfl rfl h10 rfl ?_
            refine JP_pass (i := 16) rfl (by kernel_rfl) (by kernel_rfl) (by kernel_rfl) rfl rfl h10 rfl ?_
            refine JP_pass (i := 17) rfl (by kernel_rfl) (by kernel_rfl) (by kernel_rfl) rfl rfl h10 rfl ?_
            refine JP_pass (i := 18) rfl (by kernel_rfl) (by kernel_rfl) (by kernel_rfl) rfl rfl h10 rfl ?_
            refine JP_pass (i := 19) rfl (by kernel_rfl) (by kernel_rfl) (by kernel_rfl) rfl rfl h10 rfl ?_
            refine JP_pass (i := 20) rfl (by kernel_rfl) (by kernel_rfl) (by kernel_rfl) rfl rfl h10 rfl ?_
            refine JP_pass (i := 21) rfl (by kernel_rfl) (by kernel_rfl) (by kernel_rfl) rfl rfl h10 rfl ?_
            refine JP_pass (i := 22) rfl (by kernel_rfl) (by kernel_rfl) (by kernel_rfl) rfl rfl h10 rfl ?_
            refine JP_take (i := 23) [0, 1, 2, 3, 4, 5, 6] [] rfl (by kernel_rfl) (by kernel_rfl) (by kernel_rfl) rfl rfl (wants_none rfl) rfl (ex_pick_true rfl h10 rfl) ?_
            refine JP_go [] [] rfl rfl rfl (fun _ _ _ => ?_)
            refine JD_done (by kernel_rfl) ?_
            exact N_meet' () ⟨rfl, rfl, rfl, rfl, rfl, rfl, trivial⟩ [0, 1, 2, 3, 4, 5, 6] rfl rfl
          · refine JP_take (i := 9) [0, 1, 2, 3, 4, 5, 6] [] rfl (by kernel_rfl) (by kernel_rfl) (by kernel_rfl) rfl rfl (wants_some rfl rfl rfl h10) rfl (ex_fieldAddr fi_80_0 rfl rfl) ?_
            refine JP_take (i := 10) [0, 1, 2, 3, 4, 5, 6] [] rfl (by kernel_rfl) (by kernel_rfl) (by kernel_rfl) rfl rfl (wants_some rfl rfl rfl h10) rfl (ex_load_bx 2 ti_23 rfl rfl rfl) ?_
            refine JP_take (i := 11) [0, 1, 2, 3, 4, 5, 6] [] rfl (by kernel_rfl) (by kernel_rfl) (by kernel_rfl) rfl rfl (wants_some rfl rfl rfl h10) rfl (ex_fieldAddr fi_80_0 rfl rfl) ?_
            refine JP_take (i := 12) [0, 1, 2, 3, 4, 5, 6] [] rfl (by kernel_rfl) (by kernel_rfl) (by kernel_rfl) rfl rfl (wants_some rfl rfl rfl h10) rfl (ex_load_bx 2 ti_23 rfl rfl rfl) ?_
            refine JP_take (i := 13) [0, 1, 2, 3, 4, 5, 6] [] rfl (by kernel_rfl) (by kernel_rfl) (by kernel_rfl) rfl rfl (wants_some rfl rfl rfl h10) rfl (ex_len_rd 0 Try.underlying23 rfl rfl) ?_
            refine JP_take (i := 14) [0, 1, 2, 3, 4, 5, 6] [] rfl (by kernel_rfl) (by kernel_rfl) (by kernel_rfl) rfl rfl (wants_some rfl rfl rfl h10) rfl (ex_move rfl) ?_
            refine JP_take (i := 15) [0, 1, 2, 3, 4, 5, 6] [] rfl (by kernel_rfl) (by kernel_rfl) (by kernel_rfl) rfl rfl (wants_some rfl rfl rfl h10) rfl (ex_sub rfl rfl) ?_
            refine JP_bnd fun z11 hz12 => ?_
            refine JP_sq (i := 16) [] rfl (by kernel_rfl) (by kernel_rfl) (by kernel_rfl) rfl (wants_some rfl rfl rfl h10) rfl (sq_slice 0 Try.underlying23 ti_2 rfl rfl rfl rfl hz12) (fun v13 => ?_)
            refine JP_take (i := 17) [0, 1, 2, 3, 4, 5, 6, 7] [] rfl (by kernel_rfl) (by kernel_rfl) (by kernel_rfl) rfl rfl (wants_some rfl rfl rfl h10) rfl (ex_fieldAddr fi_80_0 rfl rfl) ?_
            refine JP_take (i := 18) [0, 1, 2, 3, 4, 5, 6, 7] [] rfl (by kernel_rfl) (by kernel_rfl) (by kernel_rfl) rfl rfl (wants_some rfl rfl rfl h10) rfl (ex_load_bx 6 ti_23 rfl rfl rfl) ?_
            refine JP_take (i := 19) [0, 1, 2, 3, 4, 5, 6, 7] [] rfl (by kernel_rfl) (by kernel_rfl) (by kernel_rfl) rfl rfl (wants_some rfl rfl rfl h10) rfl (ex_move rfl) ?_
            refine JP_bnd fun z14 hz15 => ?_
            refine JP_sq (i := 20) [] rfl (by kernel_rfl) (by kernel_rfl) (by kernel_rfl) rfl (wants_some rfl rfl rfl h10) rfl (sq_slice 4 Try.underlying23 ti_2 rfl rfl rfl rfl hz15) (fun v16 => ?_)
            refine JP_go [0, 1, 2, 3, 4, 5, 6, 7, 8] [] rfl rfl rfl (fun w18 h1_19 hp17 => ?_)
            refine JD_bnd fun r20 hr21 => ?_
            refine JD_one (i := 21) (by kernel_rfl) ?_
            refine JO_call rfl (wants_some rfl rfl rfl h10) rfl Try.call95 rfl (Ca_of0 fun w hh => c_slices_Equal_Sint64_int64 _ w (fun _ hk => hk.elim) _ _ (hh.rd0 1 rfl) _ _ (hh.rd0 0 rfl) _ hr21) (fun _ => ?_)
            refine JD_take (i := 22) hp17 rfl (by kernel_rfl) (by kernel_rfl) (by kernel_rfl) (wants_some rfl rfl rfl h10) rfl (ex_not rfl) ?_
            refine JD_take (i := 23) hp17 rfl (by kernel_rfl) (by kernel_rfl) (by kernel_rfl) (wants_none rfl) rfl (ex_pick_false rfl h10 rfl) ?_
            refine JD_done (by kernel_rfl) ?_
            exact N_meet' () ⟨rfl, rfl, rfl, rfl, rfl, rfl, trivial⟩ [2, 3, 4, 5, 6, 7, 8] rfl rfl
        · refine JP_pass (i := 2) rfl (by kernel_rfl) (by kernel_rfl) (by kernel_rfl) rfl rfl h9 rfl ?_
          refine JP_pass (i := 3) rfl (by kernel_rfl) (by kernel_rfl) (by kernel_rfl) rfl rfl h9 rfl ?_
          refine JP_pass (i := 4) rfl (by kernel_rfl) (by kernel_rfl) (by kernel_rfl) rfl rfl h9 rfl ?_
          refine JP_pass (i := 5) rfl (by kernel_rfl) (by kernel_rfl) (by kernel_rfl) rfl rfl h9 rfl ?_
          refine JP_pass (i := 6) rfl (by kernel_rfl) (by kernel_rfl) (by kernel_rfl) rfl rfl h9 rfl ?_
          refine JP_take (i := 7) [0, 1, 2, 3, 4, 5, 6] [] rfl (by kernel_rfl) (by kernel_rfl) (by kernel_rfl) rfl rfl (wants_none rfl) rfl (ex_pick_false rfl h9 rfl) ?_
          refine JP_take (i := 8) [0, 1, 2, 3, 4, 5, 6] [] rfl (by kernel_rfl) (by kernel_rfl) (by kernel_rfl) rfl rfl (wants_none rfl) rfl (ex_move rfl) ?_
          refine JP_take (i := 9) [0, 1, 2, 3, 4, 5, 6] [] rfl (by kernel_rfl) (by kernel_rfl) (by kernel_rfl) rfl rfl (wants_some rfl rfl rfl rfl) rfl (ex_fieldAddr fi_80_0 rfl rfl) ?_
          refine JP_take (i := 10) [0, 1, 2, 3, 4, 5, 6] [] rfl (by kernel_rfl) (by kernel_rfl) (by kernel_rfl) rfl rfl (wants_some rfl rfl rfl rfl) rfl (ex_load_bx 2 ti_23 rfl rfl rfl) ?_
          refine JP_take (i := 11) [0, 1, 2, 3, 4, 5, 6] [] rfl (by kernel_rfl) (by kernel_rfl) (by kernel_rfl) rfl rfl (wants_some rfl rfl rfl rfl) rfl (ex_fieldAddr fi_80_0 rfl rfl) ?_
          refine JP_take (i := 12) [0, 1, 2, 3, 4, 5, 6] [] rfl (by kernel_rfl) (by kernel_rfl) (by kernel_rfl) rfl rfl (wants_some rfl rfl rfl rfl) rfl (ex_load_bx 2 ti_23 rfl rfl rfl) ?_
          refine JP_take (i := 13) [0, 1, 2, 3, 4, 5, 6] [] rfl (by kernel_rfl) (by kernel_rfl) (by kernel_rfl) rfl rfl (wants_some rfl rfl rfl rfl) rfl (ex_len_rd 0 Try.underlying23 rfl rfl) ?_
          refine JP_take (i := 14) [0, 1, 2, 3, 4, 5, 6] [] rfl (by kernel_rfl) (by kernel_rfl) (by kernel_rfl) rfl rfl (wants_some rfl rfl rfl rfl) rfl (ex_move rfl) ?_
          refine JP_take (i := 15) [0, 1, 2, 3, 4, 5, 6] [] rfl (by kernel_rfl) (by kernel_rfl) (by kernel_rfl) rfl rfl (wants_some rfl rfl rfl rfl) rfl (ex_sub rfl rfl) ?_
          refine JP_bnd fun z22 hz23 => ?_
          refine JP_sq (i := 16) [] rfl (by kernel_rfl) (by kernel_rfl) (by kernel_rfl) rfl (wants_some rfl rfl rfl rfl) rfl (sq_slice 0 Try.underlying23 ti_2 rfl rfl rfl rfl hz23) (fun v24 => ?_)
          refine JP_take (i := 17) [0, 1, 2, 3, 4, 5, 6, 7] [] rfl (by kernel_rfl) (by kernel_rfl) (by kernel_rfl) rfl rfl (wants_some rfl rfl rfl rfl) rfl (ex_fieldAddr fi_80_0 rfl rfl) ?_
          refine JP_take (i := 18) [0, 1, 2, 3, 4, 5, 6, 7] [] rfl (by kernel_rfl) (by kernel_rfl) (by kernel_rfl) rfl rfl (wants_some rfl rfl rfl rfl) rfl (ex_load_bx 6 ti_23 rfl rfl rfl) ?_
          refine JP_take (i := 19) [0, 1, 2, 3, 4, 5, 6, 7] [] rfl (by kernel_rfl) (by kernel_rfl) (by kernel_rfl) rfl rfl (wants_some rfl rfl rfl rfl) rfl (ex_move rfl) ?_
          refine JP_bnd fun z25 hz26 => ?_
          refine JP_sq (i := 20) [] rfl (by kernel_rfl) (by kernel_rfl) (by kernel_rfl) rfl (wants_some rfl rfl rfl rfl) rfl (sq_slice 4 Try.underlying23 ti_2 rfl rfl rfl rfl hz26) (fun v27 => ?_)
          refine JP_go [0, 1, 2, 3, 4, 5, 6, 7, 8] [] rfl rfl rfl (fun w29 h1_30 hp28 => ?_)
          refine JD_bnd fun r31 hr32 => ?_
          refine JD_one (i := 21) (by kernel_rfl) ?_
          refine JO_call rfl (wants_some rfl rfl rfl rfl) rfl Try.call95 rfl (Ca_of0 fun w hh => c_slices_Equal_Sint64_int64 _ w (fun _ hk => hk.elim) _ _ (hh.rd0 1 rfl) _ _ (hh.rd0 0 rfl) _ hr32) (fun _ => ?_)
          refine JD_take (i := 22) hp28 rfl (by kernel_rfl) (by kernel_rfl) (by kernel_rfl) (wants_some rfl rfl rfl rfl) rfl (ex_not rfl) ?_
          refine JD_take (i := 23) hp28 rfl (by kernel_rfl) (by kernel_rfl) (by kernel_rfl) (wants_none rfl) rfl (ex_pick_false rfl rfl rfl) ?_
          refine JD_done (by kernel_rfl) ?_
          exact N_meet' () ⟨rfl, rfl, rfl, rfl, rfl, rfl, trivial⟩ [2, 3, 4, 5, 6, 7, 8] rfl rfl
      · refine N_then ?_
        refine J_if rfl (fun h33 => ?_) (fun h33 => ?_)
        · refine J_exit ?_
          refine N_then_exit ?_
          refine N_block_exit ?_
          refine N_then ?_
          refine J_region ?_
          refine JL_q (wants_none rfl) rfl (ex_move rfl) ?_
          refine JL_q (wants_none rfl) rfl (ex_sub rfl rfl) ?_
          refine JL_q (wants_none rfl) rfl (ex_assign rfl) ?_
          refine JL_nil ?_
          exact N_next' (g5_0, g5_1) ⟨rfl, rfl, rfl, rfl, rfl, trivial⟩ [0, 1, 2, 3, 4, 5, 6] rfl rfl
        · refine J_skip ?_
          refine N_then ?_
          refine J_seq ?_
          refine J_draw [] (by kernel_rfl) ?_
          refine JP_take (i := 0) [0, 1, 2, 3, 4, 5, 6] [] rfl (by kernel_rfl) (by kernel_rfl) (by kernel_rfl) rfl rfl (wants_none rfl) rfl (ex_fieldAddr fi_80_0 rfl rfl) ?_
          refine JP_take (i := 1) [0, 1, 2, 3, 4, 5, 6] [] rfl (by kernel_rfl) (by kernel_rfl) (by kernel_rfl) rfl rfl (wants_none rfl) rfl (ex_load_bx 2 ti_23 rfl rfl rfl) ?_
          refine JP_take (i := 2) [0, 1, 2, 3, 4, 5, 6] [] rfl (by kernel_rfl) (by kernel_rfl) (by kernel_rfl) rfl rfl (wants_none rfl) rfl (ex_fieldAddr fi_80_0 rfl rfl) ?_
          refine JP_take (i := 3) [0, 1, 2, 3, 4, 5, 6] [] rfl (by kernel_rfl) (by kernel_rfl) (by kernel_rfl) rfl rfl (wants_none rfl) rfl (ex_load_bx 5 ti_23 rfl rfl rfl) ?_
          refine JP_take (i := 4) [0, 1, 2, 3, 4, 5, 6] [] rfl (by kernel_rfl) (by kernel_rfl) (by kernel_rfl) rfl rfl (wants_none rfl) rfl (ex_move rfl) ?_
          refine JP_bnd fun z34 hz35 => ?_
          refine JP_sq (i := 5) [] rfl (by kernel_rfl) (by kernel_rfl) (by kernel_rfl) rfl (wants_none rfl) rfl (sq_slice 3 Try.underlying23 ti_2 rfl rfl rfl rfl hz35) (fun v36 => ?_)
          refine JP_go [0, 1, 2, 3, 4, 5, 6, 7] [] rfl rfl rfl (fun w38 h1_39 hp37 => ?_)
          refine JD_one (i := 6) (by kernel_rfl) ?_
          refine JO_st rfl (wants_none rfl) rfl (st_buildSlice (vs := [v0_0, v36]) ([p0.From, z34] : List (List Int)) Try.underlying25 ti_23 zi_23 rfl rfl rfl (fun w hh => ⟨(hh.rd 1 rfl), (hh.rd 0 rfl), trivial⟩)) (fun _ hk => nomatch hk) (fun b40 => ?_)
          refine JD_bnd fun r41 hr42 => ?_
          refine JD_one (i := 7) (by kernel_rfl) ?_
          refine JO_call rfl (wants_none rfl) rfl Try.call96 rfl (Ca_self (fun _ => rfl) fun w hh => c_impl_joined _ w (fun _ hk => hk.elim) _ _ (hh.ow0 0 rfl) _ hr42) (fun x43 => ?_)
          refine JD_take (i := 8) hp37 rfl (by kernel_rfl) (by kernel_rfl) (by kernel_rfl) (wants_none rfl) rfl (ex_assign rfl) ?_
          refine JD_done (by kernel_rfl) ?_
          refine N_then ?_
          refine J_draw [9] (by kernel_rfl) ?_
          refine JP_take (i := 0) [0, 1, 2, 3, 4, 5, 6, 7, 8] [9] rfl (by kernel_rfl) (by kernel_rfl) (by kernel_rfl) rfl rfl (wants_none rfl) rfl (ex_move rfl) ?_
          refine JP_take (i := 1) [0, 1, 2, 3, 4, 5, 6, 7, 8] [9] rfl (by kernel_rfl) (by kernel_rfl) (by kernel_rfl) rfl rfl (wants_none rfl) rfl (ex_move rfl) ?_
          refine JP_take (i := 2) [0, 1, 2, 3, 4, 5, 6, 7, 8] [9] rfl (by kernel_rfl) (by kernel_rfl) (by kernel_rfl) rfl rfl (wants_none rfl) rfl (ex_fieldAddr fi_80_1 rfl rfl) ?_
          refine JP_take (i := 3) [0, 1, 2, 3, 4, 5, 6, 7, 8] [9] rfl (by kernel_rfl) (by kernel_rfl) (by kernel_rfl) rfl rfl (wants_none rfl) rfl (ex_load_bx 5 ti_23 rfl rfl rfl) ?_
          refine JP_take (i := 4) [0, 1, 2, 3, 4, 5, 6, 7, 8] [9] rfl (by kernel_rfl) (by kernel_rfl) (by kernel_rfl) rfl rfl (wants_none rfl) rfl (ex_fieldAddr fi_80_0 rfl rfl) ?_
          refine JP_take (i := 5) [0, 1, 2, 3, 4, 5, 6, 7, 8] [9] rfl (by kernel_rfl) (by kernel_rfl) (by kernel_rfl) rfl rfl (wants_none rfl) rfl (ex_load_bx 8 ti_23 rfl rfl rfl) ?_
          refine JP_take (i := 6) [0, 1, 2, 3, 4, 5, 6, 7, 8] [9] rfl (by kernel_rfl) (by kernel_rfl) (by kernel_rfl) rfl rfl (wants_none rfl) rfl (ex_move rfl) ?_
          refine JP_bnd fun z44 hz45 => ?_
          refine JP_sq (i := 7) [9] rfl (by kernel_rfl) (by kernel_rfl) (by kernel_rfl) rfl (wants_none rfl) rfl (sq_slice 6 Try.underlying23 ti_2 rfl rfl rfl rfl hz45) (fun v46 => ?_)
          refine JP_take (i := 10) [0, 1, 2, 3, 4, 5, 6, 7, 8, 9] [10] rfl (by kernel_rfl) (by kernel_rfl) (by kernel_rfl) rfl rfl (wants_none rfl) rfl (ex_move rfl) ?_
          refine JP_take (i := 11) [0, 1, 2, 3, 4, 5, 6, 7, 8, 9] [10] rfl (by kernel_rfl) (by kernel_rfl) (by kernel_rfl) rfl rfl (wants_none rfl) rfl (ex_move rfl) ?_
          refine JP_take (i := 12) [0, 1, 2, 3, 4, 5, 6, 7, 8, 9] [10] rfl (by kernel_rfl) (by kernel_rfl) (by kernel_rfl) rfl rfl (wants_none rfl) rfl (ex_len_ow 1 Try.underlying23 rfl rfl) ?_
          refine JP_take (i := 13) [0, 1, 2, 3, 4, 5, 6, 7, 8, 9] [10] rfl (by kernel_rfl) (by kernel_rfl) (by kernel_rfl) rfl rfl (wants_none rfl) rfl (ex_fieldAddr fi_80_0 rfl rfl) ?_
          refine JP_take (i := 14) [0, 1, 2, 3, 4, 5, 6, 7, 8, 9] [10] rfl (by kernel_rfl) (by kernel_rfl) (by kernel_rfl) rfl rfl (wants_none rfl) rfl (ex_load_bx 9 ti_23 rfl rfl rfl) ?_
          refine JP_take (i := 15) [0, 1, 2, 3, 4, 5, 6, 7, 8, 9] [10] rfl (by kernel_rfl) (by kernel_rfl) (by kernel_rfl) rfl rfl (wants_none rfl) rfl (ex_len_rd 7 Try.underlying23 rfl rfl) ?_
          refine JP_take (i := 16) [0, 1, 2, 3, 4, 5, 6, 7, 8, 9] [10] rfl (by kernel_rfl) (by kernel_rfl) (by kernel_rfl) rfl rfl (wants_none rfl) rfl (ex_sub rfl rfl) ?_
          refine JP_bnd fun z47 hz48 => ?_
          refine JP_ctx (fun w hh => hh.tokf 1 rfl rfl) ?_
          refine JP_sq (i := 17) [11] rfl (by kernel_rfl) (by kernel_rfl) (by kernel_rfl) rfl (wants_none rfl) rfl (sq_slice 2 Try.underlying23 ti_2 rfl rfl rfl rfl hz48) (fun v49 => ?_)
          refine JP_take (i := 18) [0, 1, 2, 3, 4, 5, 6, 7, 8, 9, 10, 11] [12] rfl (by kernel_rfl) (by kernel_rfl) (by kernel_rfl) rfl rfl (wants_none rfl) rfl (ex_fieldAddr fi_80_1 rfl rfl) ?_
          refine JP_take (i := 19) [0, 1, 2, 3, 4, 5, 6, 7, 8, 9, 10, 11] [12] rfl (by kernel_rfl) (by kernel_rfl) (by kernel_rfl) rfl rfl (wants_none rfl) rfl (ex_load_bx 11 ti_23 rfl rfl rfl) ?_
          refine JP_go [0, 1, 2, 3, 4, 5, 6, 7, 8, 9, 10, 11] [12] rfl rfl rfl (fun w51 h1_52 hp50 => ?_)
          refine JD_two (i := 8) (j := 20) (by kernel_rfl) ?_ ?_
          · refine JO_st rfl (wants_none rfl) rfl (st_buildSlice (vs := [v0_1, v46]) ([p0.To, z44] : List (List Int)) Try.underlying25 ti_23 zi_23 rfl rfl rfl (fun w hh => ⟨(hh.rd 7 rfl), (hh.rd 2 rfl), trivial⟩)) (fun _ hk => nomatch hk) (fun b53 => ?_)
            refine JD_bnd fun r54 hr55 => ?_
            refine JD_two (i := 9) (j := 20) (by kernel_rfl) ?_ ?_
            · refine JO_call rfl (wants_none rfl) rfl Try.call96 rfl (Ca_self (fun _ => rfl) fun w hh => c_impl_joined _ w (fun _ hk => hk.elim) _ _ (hh.ow0 0 rfl) _ hr55) (fun x56 => ?_)
              refine JD_one (i := 20) (by kernel_rfl) ?_
              refine JO_st rfl (wants_none rfl) rfl (st_buildSlice (vs := [v49, v1_1]) ([z47, p1.To] : List (List Int)) Try.underlying25 ti_23 zi_23 rfl rfl rfl (fun w hh => ⟨(hh.rd 2 rfl), (hh.rd 12 rfl), trivial⟩)) (fun _ hk => nomatch hk) (fun b57 => ?_)
              refine JD_bnd fun r58 hr59 => ?_
              refine JD_one (i := 21) (by kernel_rfl) ?_
              refine JO_call rfl (wants_none rfl) rfl Try.call96 rfl (Ca_self (fun _ => rfl) fun w hh => c_impl_joined _ w (fun _ hk => hk.elim) _ _ (hh.ow0 0 rfl) _ hr59) (fun x60 => ?_)
              refine JD_one (i := 22) (by kernel_rfl) ?_
              refine JO_ctx (fun w hh => hh.tokf 2 rfl rfl) (tokf_owns (i := 2) rfl) ?_
              refine JO_ctx (fun w hh => hh.tokf 1 rfl rfl) (tokf_owns (i := 1) rfl) ?_
              refine JO_st rfl (wants_none rfl) rfl (st_buildSlice_od (vs := [x43, x56, x60]) (B := (((x43 : Value).ownBlock.toList ++ []) ++ (((x56 : Value).ownBlock.toList ++ []) ++ (((x60 : Value).ownBlock.toList ++ []) ++ [])))) ([r41, r54, r58] : List (List Int)) [7, 1, 0] Try.underlying25 ti_23 zi_23 rfl rfl rfl rfl rfl (fun w hh => (dwv_cons (hh.dw 7 rfl) (dwv_cons (hh.dw 1 rfl) (dwv_cons (hh.dw 0 rfl) dwv_nil))))) (fun _ hk => nomatch hk) (fun b61 => ?_)
              refine JD_one (i := 23) (by kernel_rfl) ?_
              refine JO_ctx (fun w hh => hh.tok 0 rfl) (tok_owns (i := 0) rfl) ?_
              refine JO_st rfl (wants_none rfl) rfl (st_buildSlice_od (vs := [(.slice (some ⟨b61, 0, none⟩) 3 3)]) (B := ((((.slice (some ⟨b61, 0, none⟩) 3 3) : Value).ownBlock.toList ++ (((x43 : Value).ownBlock.toList ++ []) ++ (((x56 : Value).ownBlock.toList ++ []) ++ (((x60 : Value).ownBlock.toList ++ []) ++ [])))) ++ [])) ([([r41, r54, r58] : List (List Int))] : List (List (List Int))) [0] Try.underlying42 ti_25 zi_25 rfl rfl rfl rfl rfl (fun w hh => (dwv_cons (hh.dw 0 rfl) dwv_nil))) (fun _ hk => nomatch hk) (fun b62 => ?_)
              refine JD_bnd fun z63 hz64 => ?_
              refine JD_one (i := 24) (by kernel_rfl) ?_
              refine JO_st rfl (wants_none rfl) rfl (st_append_od 21 0 Try.underlying42 ti_25 zi_25 rfl bi_25 rfl rfl rfl rfl rfl rfl hz64) (sub_od 0 rfl) (fun v65 => ?_)
              refine JD_take (i := 25) hp50 rfl (by kernel_rfl) (by kernel_rfl) (by kernel_rfl) (wants_none rfl) rfl (ex_assign rfl) ?_
              refine JD_done (by kernel_rfl) ?_
              refine N_block ?_
              refine N_then ?_
              refine J_region ?_
              refine JL_q (wants_none rfl) rfl (ex_move rfl) ?_
              refine JL_q (wants_none rfl) rfl (ex_sub rfl rfl) ?_
              refine JL_q (wants_none rfl) rfl (ex_assign rfl) ?_
              refine JL_nil ?_
              exact N_next' (v65, (g5_1 ++ ((((.slice (some ⟨b61, 0, none⟩) 3 3) : Value).ownBlock.toList ++ (((x43 : Value).ownBlock.toList ++ []) ++ (((x56 : Value).ownBlock.toList ++ []) ++ (((x60 : Value).ownBlock.toList ++ []) ++ [])))) ++ []))) ⟨rfl, rfl, rfl, rfl, rfl, trivial⟩ [15, 16, 17, 18, 19, 20, 21] rfl rfl
            · refine JO_st rfl (wants_none rfl) rfl (st_buildSlice (vs := [v49, v1_1]) ([z47, p1.To] : List (List Int)) Try.underlying25 ti_23 zi_23 rfl rfl rfl (fun w hh => ⟨(hh.rd 1 rfl), (hh.rd 11 rfl), trivial⟩)) (fun _ hk => nomatch hk) (fun b66 => ?_)
              refine JD_one (i := 9) (by kernel_rfl) ?_
              refine JO_call rfl (wants_none rfl) rfl Try.call96 rfl (Ca_self (fun _ => rfl) fun w hh => c_impl_joined _ w (fun _ hk => hk.elim) _ _ (hh.ow0 1 rfl) _ hr55) (fun x67 => ?_)
              refine JD_bnd fun r68 hr69 => ?_
              refine JD_one (i := 21) (by kernel_rfl) ?_
              refine JO_call rfl (wants_none rfl) rfl Try.call96 rfl (Ca_self (fun _ => rfl) fun w hh => c_impl_joined _ w (fun _ hk => hk.elim) _ _ (hh.ow0 1 rfl) _ hr69) (fun x70 => ?_)
              refine JD_one (i := 22) (by kernel_rfl) ?_
              refine JO_ctx (fun w hh => hh.tokf 1 rfl rfl) (tokf_owns (i := 1) rfl) ?_
              refine JO_ctx (fun w hh => hh.tokf 1 rfl rfl) (tokf_owns (i := 1) rfl) ?_
              refine JO_st rfl (wants_none rfl) rfl (st_buildSlice_od (vs := [x43, x67, x70]) (B := (((x43 : Value).ownBlock.toList ++ []) ++ (((x67 : Value).ownBlock.toList ++ []) ++ (((x70 : Value).ownBlock.toList ++ []) ++ [])))) ([r41, r54, r68] : List (List Int)) [7, 1, 0] Try.underlying25 ti_23 zi_23 rfl rfl rfl rfl rfl (fun w hh => (dwv_cons (hh.dw 7 rfl) (dwv_cons (hh.dw 1 rfl) (dwv_cons (hh.dw 0 rfl) dwv_nil))))) (fun _ hk => nomatch hk) (fun b71 => ?_)
              refine JD_one (i := 23) (by kernel_rfl) ?_
              refine JO_ctx (fun w hh => hh.tok 0 rfl) (tok_owns (i := 0) rfl) ?_
              refine JO_st rfl (wants_none rfl) rfl (st_buildSlice_od (vs := [(.slice (some ⟨b71, 0, none⟩) 3 3)]) (B := ((((.slice (some ⟨b71, 0, none⟩) 3 3) : Value).ownBlock.toList ++ (((x43 : Value).ownBlock.toList ++ []) ++ (((x67 : Value).ownBlock.toList ++ []) ++ (((x70 : Value).ownBlock.toList ++ []) ++ [])))) ++ [])) ([([r41, r54, r68] : List (List Int))] : List (List (List Int))) [0] Try.underlying42 ti_25 zi_25 rfl rfl rfl rfl rfl (fun w hh => (dwv_cons (hh.dw 0 rfl) dwv_nil))) (fun _ hk => nomatch hk) (fun b72 => ?_)
              refine JD_bnd fun z73 hz74 => ?_
              refine JD_one (i := 24) (by kernel_rfl) ?_
              refine JO_st rfl (wants_none rfl) rfl (st_append_od 21 0 Try.underlying42 ti_25 zi_25 rfl bi_25 rfl rfl rfl rfl rfl rfl hz74) (sub_od 0 rfl) (fun v75 => ?_)
              refine JD_take (i := 25) hp50 rfl (by kernel_rfl) (by kernel_rfl) (by kernel_rfl) (wants_none rfl) rfl (ex_assign rfl) ?_
              refine JD_done (by kernel_rfl) ?_
              refine N_block ?_
              refine N_then ?_
              refine J_region ?_
              refine JL_q (wants_none rfl) rfl (ex_move rfl) ?_
              refine JL_q (wants_none rfl) rfl (ex_sub rfl rfl) ?_
              refine JL_q (wants_none rfl) rfl (ex_assign rfl) ?_
              refine JL_nil ?_
              exact N_next' (v75, (g5_1 ++ ((((.slice (some ⟨b71, 0, none⟩) 3 3) : Value).ownBlock.toList ++ (((x43 : Value).ownBlock.toList ++ []) ++ (((x67 : Value).ownBlock.toList ++ []) ++ (((x70 : Value).ownBlock.toList ++ []) ++ [])))) ++ []))) ⟨rfl, rfl, rfl, rfl, rfl, trivial⟩ [15, 16, 17, 18, 19, 20, 21] rfl rfl
          · refine JO_st rfl (wants_none rfl) rfl (st_buildSlice (vs := [v49, v1_1]) ([z47, p1.To] : List (List Int)) Try.underlying25 ti_23 zi_23 rfl rfl rfl (fun w hh => ⟨(hh.rd 0 rfl), (hh.rd 10 rfl), trivial⟩)) (fun _ hk => nomatch hk) (fun b76 => ?_)
            refine JD_one (i := 8) (by kernel_rfl) ?_
            refine JO_st rfl (wants_none rfl) rfl (st_buildSlice (vs := [v0_1, v46]) ([p0.To, z44] : List (List Int)) Try.underlying25 ti_23 zi_23 rfl rfl rfl (fun w hh => ⟨(hh.rd 8 rfl), (hh.rd 3 rfl), trivial⟩)) (fun _ hk => nomatch hk) (fun b77 => ?_)
            refine JD_bnd fun r78 hr79 => ?_
            refine JD_one (i := 9) (by kernel_rfl) ?_
            refine JO_call rfl (wants_none rfl) rfl Try.call96 rfl (Ca_self (fun _ => rfl) fun w hh => c_impl_joined _ w (fun _ hk => hk.elim) _ _ (hh.ow0 0 rfl) _ hr79) (fun x80 => ?_)
            refine JD_bnd fun r81 hr82 => ?_
            refine JD_one (i := 21) (by kernel_rfl) ?_
            refine JO_call rfl (wants_none rfl) rfl Try.call96 rfl (Ca_self (fun _ => rfl) fun w hh => c_impl_joined _ w (fun _ hk => hk.elim) _ _ (hh.ow0 2 rfl) _ hr82) (fun x83 => ?_)
            refine JD_one (i := 22) (by kernel_rfl) ?_
            refine JO_ctx (fun w hh => hh.tokf 1 rfl rfl) (tokf_owns (i := 1) rfl) ?_
            refine JO_ctx (fun w hh => hh.tokf 1 rfl rfl) (tokf_owns (i := 1) rfl) ?_
            refine JO_st rfl (wants_none rfl) rfl (st_buildSlice_od (vs := [x43, x80, x83]) (B := (((x43 : Value).ownBlock.toList ++ []) ++ (((x80 : Value).ownBlock.toList ++ []) ++ (((x83 : Value).ownBlock.toList ++ []) ++ [])))) ([r41, r78, r81] : List (List Int)) [7, 1, 0] Try.underlying25 ti_23 zi_23 rfl rfl rfl rfl rfl (fun w hh => (dwv_cons (hh.dw 7 rfl) (dwv_cons (hh.dw 1 rfl) (dwv_cons (hh.dw 0 rfl) dwv_nil))))) (fun _ hk => nomatch hk) (fun b84 => ?_)
            refine JD_one (i := 23) (by kernel_rfl) ?_
            refine JO_ctx (fun w hh => hh.tok 0 rfl) (tok_owns (i := 0) rfl) ?_
            refine JO_st rfl (wants_none rfl) rfl (st_buildSlice_od (vs := [(.slice (some ⟨b84, 0, none⟩) 3 3)]) (B := ((((.slice (some ⟨b84, 0, none⟩) 3 3) : Value).ownBlock.toList ++ (((x43 : Value).ownBlock.toList ++ []) ++ (((x80 : Value).ownBlock.toList ++ []) ++ (((x83 : Value).ownBlock.toList ++ []) ++ [])))) ++ [])) ([([r41, r78, r81] : List (List Int))] : List (List (List Int))) [0] Try.underlying42 ti_25 zi_25 rfl rfl rfl rfl rfl (fun w hh => (dwv_cons (hh.dw 0 rfl) dwv_nil))) (fun _ hk => nomatch hk) (fun b85 => ?_)
            refine JD_bnd fun z86 hz87 => ?_
            refine JD_one (i := 24) (by kernel_rfl) ?_
            refine JO_st rfl (wants_none rfl) rfl (st_append_od 21 0 Try.underlying42 ti_25 zi_25 rfl bi_25 rfl rfl rfl rfl rfl rfl hz87) (sub_od 0 rfl) (fun v88 => ?_)
            refine JD_take (i := 25) hp50 rfl (by kernel_rfl) (by kernel_rfl) (by kernel_rfl) (wants_none rfl) rfl (ex_assign rfl) ?_
            refine JD_done (by kernel_rfl) ?_
            refine N_block ?_
            refine N_then ?_
            refine J_region ?_
            refine JL_q (wants_none rfl) rfl (ex_move rfl) ?_
            refine JL_q (wants_none rfl) rfl (ex_sub rfl rfl) ?_
            refine JL_q (wants_none rfl) rfl (ex_assign rfl) ?_
            refine JL_nil ?_
            exact N_next' (v88, (g5_1 ++ ((((.slice (some ⟨b84, 0, none⟩) 3 3) : Value).ownBlock.toList ++ (((x43 : Value).ownBlock.toList ++ []) ++ (((x80 : Value).ownBlock.toList ++ []) ++ (((x83 : Value).ownBlock.toList ++ []) ++ [])))) ++ []))) ⟨rfl, rfl, rfl, rfl, rfl, trivial⟩ [15, 16, 17, 18, 19, 20, 21] rfl rfl
    · refine J_exit ?_
      refine N_then_exit ?_
      exact N_break' (g5_0, g5_1) ⟨rfl, rfl, rfl, rfl, rfl, trivial⟩ [0, 1, 2, 3, 4, 5, 6] rfl rfl
  · obtain ⟨g5_0, g5_1⟩ := g5
    refine N_then ?_
    refine J_seq ?_
    refine J_region ?_
    refine JL_q (wants_none rfl) rfl (ex_move rfl) ?_
    refine JL_q (wants_none rfl) rfl (ex_assign rfl) ?_
    refine JL_nil ?_
    refine N_then ?_
    refine J_ret ?_
    exact N_ret1 rfl (rv_tmp rfl) (fun w hh => ⟨(g5_0, g5_1), rfl, hh.sel [6] rfl⟩)

set_option maxHeartbeats 40000000 in
theorem c_impl_OverlapsOf (A : Nat → Prop) (w : World) (hA : ∀ k, A k → k < w.heap.size) (v0_ : Value) (p0 : (List GRewrite)) (hp0 : Rd A w v0_ p0) (r : (List (List (List Int))) × Int) (hr : F_impl_OverlapsOf p0 = some r) :
    Con Try.prog 20 [v0_] A w (fun x_ : Value × List Nat => .tuple #[x_.1, .int .i64 r.2]) (fun x_ => [.od 25 x_.1 r.1 x_.2]) := by
  refine Con_of (v := fun (r : (List (List (List Int))) × Int) (x_ : Value × List Nat) => .tuple #[x_.1, .int .i64 r.2]) (fs := fun r x_ => [.od 25 x_.1 r.1 x_.2]) Try.func20 rfl Try.ntmps20 rfl ((SH.start hA).start_rd rfl hp0) rfl ?_ hr
  unfold F_impl_OverlapsOf
  refine J_seq ?_
  refine J_region ?_
  refine JL_q (wants_none rfl) rfl (ex_assign rfl) ?_
  refine JL_q (wants_none rfl) rfl (ex_assign rfl) ?_
  refine JL_nil ?_
  refine N_then ?_
  refine J_seq ?_
  refine J_seq ?_
  refine J_region ?_
  refine JL_q (wants_none rfl) rfl (ex_move rfl) ?_
  refine JL_bnd fun r1 hr2 => ?_
  refine JL_call (wants_none rfl) rfl Try.call50 rfl (Ca_of0 fun w hh => c_impl_ValidRewrites _ w (fun _ hk => hk.elim) _ _ (hh.rd0 0 rfl) _ hr2) (fun _ => ?_)
  refine JL_q (wants_none rfl) rfl (ex_not rfl) ?_
  refine JL_nil ?_
  refine N_then ?_
  refine J_if rfl (fun h3 => ?_) (fun h3 => ?_)
  · refine J_seq ?_
    refine J_region ?_
    refine JL_q (wants_none rfl) rfl (ex_assign rfl) ?_
    refine JL_q (wants_none rfl) rfl (ex_assign rfl) ?_
    refine JL_nil ?_
    refine N_then ?_
    refine J_ret ?_
    refine N_then_ret ?_
    refine N_ctx (fun w hh => SH.od_nil (α := (List (List Int))) 25 hh) ?_
    exact N_ret2 rfl (rv_tmp rfl) (rv_tmp rfl) (fun w hh => ⟨((.slice none 0 0 : Value), ([] : List Nat)), rfl, hh.sel [0] rfl⟩)
  · refine J_skip ?_
    refine N_then ?_
    refine J_seq ?_
    refine J_region ?_
    refine JL_st (wants_none rfl) rfl (st_buildSlice_od (vs := []) (B := ([] : List Nat)) ([] : List (List (List Int))) [] Try.underlying42 ti_25 zi_25 rfl rfl rfl rfl rfl (fun w hh => dwv_nil)) (fun b4 => ?_)
    refine JL_q (wants_none rfl) rfl (ex_assign rfl) ?_
    refine JL_nil ?_
    refine N_then ?_
    refine J_seq ?_
    refine J_seq ?_
    refine J_region ?_
    refine JL_q (wants_none rfl) rfl (ex_move rfl) ?_
    refine JL_q (wants_none rfl) rfl (ex_len_rd 1 Try.underlying28 rfl rfl) ?_
    refine JL_q (wants_none rfl) rfl (ex_move rfl) ?_
    refine JL_nil ?_
    refine N_then ?_
    refine J_loop' (S := (List (List (List Int))) × Int) (G := Value × List Nat) (F_impl_OverlapsOf_L1 p0) (fun s5 g6 => [(0, v0_), (4, g6.1), (15, v0_), (16, .int .i64 (p0.length : Int)), (17, .int .i64 s5.2)]) (fun s5 g6 => [.rd v0_ p0, .od 25 g6.1 s5.1 g6.2]) (([] : List (List (List Int))), 0) ((.slice (some ⟨b4, 0, none⟩) 0 0), ([] : List Nat)) ⟨rfl, rfl, rfl, rfl, rfl, trivial⟩ [1, 0] rfl rfl (fun s5 g6 => ?_) (fun s5 g6 => ?_)
    · obtain ⟨g6_0, g6_1⟩ := g6
      unfold F_impl_OverlapsOf_L1
      refine J_seq ?_
      refine J_region ?_
      refine JL_q (wants_none rfl) rfl (ex_lss rfl rfl) ?_
      refine JL_nil ?_
      refine N_then ?_
      refine J_seq ?_
      refine J_if rfl (fun h7 => ?_) (fun h7 => ?_)
      · refine J_skip ?_
        refine N_then ?_
        refine J_seq ?_
        refine J_block ?_
        refine J_seq ?_
        refine J_region ?_
        refine JL_q (wants_none rfl) rfl (ex_move rfl) ?_
        refine JL_bnd fun y8 hy9 => ?_
        refine JL_st (wants_none rfl) rfl (st_index 0 Try.underlying28 ti_80 rfl rfl rfl hy9) (fun q10 => ?_)
        refine JL_st (wants_none rfl) rfl (st_load_pt_o 0 (GRewrite.opens _) ti_80 rfl rfl) (fun v11 => ?_)
        refine JL_st (wants_none rfl) rfl (st_alloc zi_80 rfl) (fun b12 => ?_)
        refine JL_q (wants_none rfl) rfl (ex_assign rfl) ?_
        refine JL_sk (wants_none rfl) (sk_store_bx' 0 ti_80 rfl rfl (fun w hh => (cv_aggs ⟨(hh.cv 1 rfl), (hh.cv 2 rfl), trivial⟩)) rfl rfl rfl rfl) ?_
        refine JL_nil ?_
        refine N_then ?_
        refine J_seq ?_
        refine J_region ?_
        refine JL_q (wants_none rfl) rfl (ex_move rfl) ?_
        refine JL_q (wants_none rfl) rfl (ex_len_rd 4 Try.underlying28 rfl rfl) ?_
        refine JL_q (wants_none rfl) rfl (ex_move rfl) ?_
        refine JL_nil ?_
        refine N_then ?_
        refine J_loop' (S := (List (List (List Int))) × Int) (G := Value × List Nat) (F_impl_OverlapsOf_L2 p0 s5 y8) (fun s13 g14 => [(0, v0_), (4, g14.1), (5, .int .i64 s5.2), (6, .pointer (some ⟨b12, 0, none⟩)), (15, v0_), (16, .int .i64 (p0.length : Int)), (17, .int .i64 s5.2), (22, v0_), (23, .int .i64 (p0.length : Int)), (24, .int .i64 s13.2)]) (fun s13 g14 => [.rd v0_ p0, .od 25 g14.1 s13.1 g14.2, .rd v11.1 y8.From, .rd v11.2 y8.To, .bx b12 80 [v11.1, v11.2]]) (s5.1, 0) (g6_0, g6_1) ⟨rfl, rfl, rfl, rfl, rfl, rfl, rfl, rfl, rfl, rfl, trivial⟩ [4, 5, 1, 2, 0] rfl rfl (fun s13 g14 => ?_) (fun s13 g14 => ?_)
        · obtain ⟨g14_0, g14_1⟩ := g14
          unfold F_impl_OverlapsOf_L2
          refine J_seq ?_
          refine J_region ?_
          refine JL_q (wants_none rfl) rfl (ex_lss rfl rfl) ?_
          refine JL_nil ?_
          refine N_then ?_
          refine J_seq ?_
          refine J_if rfl (fun h15 => ?_) (fun h15 => ?_)
          · refine J_skip ?_
            refine N_then ?_
            refine J_seq ?_
            refine J_block ?_
            refine J_seq ?_
            refine J_region ?_
            refine JL_q (wants_none rfl) rfl (ex_move rfl) ?_
            refine JL_bnd fun y16 hy17 => ?_
            refine JL_st (wants_none rfl) rfl (st_index 0 Try.underlying28 ti_80 rfl rfl rfl hy17) (fun q18 => ?_)
            refine JL_st (wants_none rfl) rfl (st_load_pt_o 0 (GRewrite.opens _) ti_80 rfl rfl) (fun v19 => ?_)
            refine JL_st (wants_none rfl) rfl (st_alloc zi_80 rfl) (fun b20 => ?_)
            refine JL_q (wants_none rfl) rfl (ex_assign rfl) ?_
            refine JL_sk (wants_none rfl) (sk_store_bx' 0 ti_80 rfl rfl (fun w hh => (cv_aggs ⟨(hh.cv 1 rfl), (hh.cv 2 rfl), trivial⟩)) rfl rfl rfl rfl) ?_
            refine JL_nil ?_
            refine N_then ?_
            refine J_seq ?_
            refine J_region ?_
            refine JL_q (wants_none rfl) rfl (ex_load_bx_agg 8 ti_80 rfl rfl rfl rfl) ?_
            refine JL_q (wants_none rfl) rfl (ex_load_bx_agg 0 ti_80 rfl rfl rfl rfl) ?_
            refine JL_q (wants_none rfl) rfl (ex_move rfl) ?_
            refine JL_q (wants_none rfl) rfl (ex_move rfl) ?_
            refine JL_q (wants_none rfl) rfl (ex_eql rfl rfl) ?_
            refine JL_bnd fun r21 hr22 => ?_
            refine JL_call (wants_none rfl) rfl Try.call51 rfl (Ca_self (fun _ => rfl) fun w hh => c_impl_overlaps _ w (fun _ hk => hk.elim) _ _ (GRewrite.rdmk (hh.rd0 6 rfl) (hh.rd0 7 rfl)) _ _ (GRewrite.rdmk (hh.rd0 1 rfl) (hh.rd0 2 rfl)) _ _ hr22) (fun x23 => ?_)
            obtain ⟨x23_0, x23_1⟩ := x23
            refine JL_q (wants_none rfl) rfl (ex_od 0 rfl (ex_len_ow 0 Try.underlying42 rfl rfl)) ?_
            refine JL_q (wants_none rfl) rfl (ex_move rfl) ?_
            refine JL_nil ?_
            refine N_then ?_
            refine J_tail 0 rfl 0 (fun ts24 hts25 hln26 => ?_)
            refine J_loop' (S := (List (List (List Int))) × Int) (G := Value × List Nat) (F_impl_OverlapsOf_L3 r21) (fun s27 g28 => [(0, v0_), (4, g28.1), (5, .int .i64 s5.2), (6, .pointer (some ⟨b12, 0, none⟩)), (15, v0_), (16, .int .i64 (p0.length : Int)), (17, .int .i64 s5.2), (22, v0_), (23, .int .i64 (p0.length : Int)), (24, .int .i64 s13.2), (34, x23_0), (35, .int .i64 (r21.length : Int)), (36, .int .i64 s27.2)]) (fun s27 g28 => [.rd v0_ p0, .od 25 g28.1 s27.1 g28.2, .rd v11.1 y8.From, .rd v11.2 y8.To, .bx b12 80 [v11.1, v11.2], .rd x23_0 r21, .rd x23_0 ts24, hld (tlB ts24 s27.2)]) (s13.1, 0) (g14_0, g14_1) ⟨rfl, rfl, rfl, rfl, rfl, rfl, rfl, rfl, rfl, rfl, rfl, rfl, rfl, trivial⟩ [7, 8, 9, 10, 11, 2, 1, 0] rfl rfl (fun s27 g28 => ?_) (fun s27 g28 => ?_)
            · obtain ⟨g28_0, g28_1⟩ := g28
              unfold F_impl_OverlapsOf_L3
              refine J_seq ?_
              refine J_region ?_
              refine JL_q (wants_none rfl) rfl (ex_lss rfl rfl) ?_
              refine JL_nil ?_
              refine N_then ?_
              refine J_seq ?_
              refine J_if rfl (fun h29 => ?_) (fun h29 => ?_)
              · refine J_skip ?_
                refine N_then ?_
                refine J_seq ?_
                refine J_block ?_
                refine J_seq ?_
                refine J_region ?_
                refine JL_bnd fun y30 hy31 => ?_
                obtain ⟨t33, ht34, hx35⟩ := tl_idx hts25 hy31
                refine JL_st (wants_none rfl) rfl (st_index 6 Try.underlying42 ti_25 rfl rfl rfl ht34) (fun q32 => ?_)
                refine JL_st (wants_none rfl) rfl (st_load_pt_o 0 (opT_sl t33 hx35) ti_25 rfl rfl) (fun v36 => ?_)
                refine JL_ctx (fun w hh => hh.tl_take 0 9 rfl rfl (tl_next hln26 ht34)) ?_
                refine JL_q (wants_none rfl) rfl (ex_assign rfl) ?_
                refine JL_nil ?_
                refine N_then ?_
                refine J_seq ?_
                refine J_seq ?_
                refine J_region ?_
                refine JL_q (wants_none rfl) rfl (ex_move rfl) ?_
                refine JL_bnd fun r37 hr38 => ?_
                refine JL_call (wants_none rfl) rfl Try.call52 rfl (Ca_of0 fun w hh => c_impl_areWords _ w (fun _ hk => hk.elim) _ _ (hh.rd0 0 rfl) _ hr38) (fun _ => ?_)
                refine JL_q (wants_none rfl) rfl (ex_not rfl) ?_
                refine JL_q (wants_none rfl) rfl (ex_move rfl) ?_
                refine JL_cond (fun h39 => ?_) (fun h39 => ?_)
                · refine JL_passed rfl rfl rfl h39 ?_
                  refine JL_passed rfl rfl rfl h39 ?_
                  refine JL_passed rfl rfl rfl h39 ?_
                  refine JL_q (wants_none rfl) rfl (ex_pick_true rfl h39 rfl) ?_
                  refine JL_nil ?_
                  refine N_then ?_
                  refine J_if_true rfl rfl ?_
                  refine J_seq ?_
                  refine J_region ?_
                  refine JL_q (wants_none rfl) rfl (ex_assign rfl) ?_
                  refine JL_q (wants_none rfl) rfl (ex_assign rfl) ?_
                  refine JL_nil ?_
                  refine N_then ?_
                  refine J_ret ?_
                  refine N_then_ret ?_
                  refine N_block_ret ?_
                  refine N_then_ret ?_
                  refine N_round_ret ?_
                  refine N_block_ret ?_
                  refine N_then_ret ?_
                  refine N_round_ret ?_
                  refine N_block_ret ?_
                  refine N_then_ret ?_
                  refine N_round_ret ?_
                  refine N_then_ret ?_
                  refine N_ctx (fun w hh => SH.od_nil (α := (List (List Int))) 25 hh) ?_
                  exact N_ret2 rfl (rv_tmp rfl) (rv_tmp rfl) (fun w hh => ⟨((.slice none 0 0 : Value), ([] : List Nat)), rfl, hh.sel [0] rfl⟩)
                · refine JL_q (wants_some rfl rfl rfl h39) rfl (ex_move rfl) ?_
                  refine JL_q (wants_some rfl rfl rfl h39) rfl (ex_od 5 rfl (ex_len_ow 5 Try.underlying42 rfl rfl)) ?_
                  refine JL_q (wants_some rfl rfl rfl h39) rfl (ex_eql rfl rfl) ?_
                  refine JL_q (wants_none rfl) rfl (ex_pick_false rfl h39 rfl) ?_
                  refine JL_nil ?_
                  refine N_then ?_
                  refine J_if rfl (fun h40 => ?_) (fun h40 => ?_)
                  · refine J_seq ?_
                    refine J_region ?_
                    refine JL_q (wants_none rfl) rfl (ex_assign rfl) ?_
                    refine JL_q (wants_none rfl) rfl (ex_assign rfl) ?_
                    refine JL_nil ?_
                    refine N_then ?_
                    refine J_ret ?_
                    refine N_then_ret ?_
                    refine N_block_ret ?_
                    refine N_then_ret ?_
                    refine N_round_ret ?_
                    refine N_block_ret ?_
                    refine N_then_ret ?_
                    refine N_round_ret ?_
                    refine N_block_ret ?_
                    refine N_then_ret ?_
                    refine N_round_ret ?_
                    refine N_then_ret ?_
                    refine N_ctx (fun w hh => SH.od_nil (α := (List (List Int))) 25 hh) ?_
                    exact N_ret2 rfl (rv_tmp rfl) (rv_tmp rfl) (fun w hh => ⟨((.slice none 0 0 : Value), ([] : List Nat)), rfl, hh.sel [0] rfl⟩)
                  · refine J_skip ?_
                    refine N_then ?_
                    refine J_region ?_
                    refine JL_q (wants_none rfl) rfl (ex_move rfl) ?_
                    refine JL_q (wants_none rfl) rfl (ex_move rfl) ?_
                    refine JL_st (wants_none rfl) rfl (st_buildSlice_od (vs := [v36]) (B := (t33.B ++ [])) ([y30] : List (List (List Int))) [1] Try.underlying42 ti_25 zi_25 rfl rfl rfl rfl rfl (fun w hh => (dwv_cons (hh.dw 1 rfl) dwv_nil))) (fun b41 => ?_)
                    refine JL_bnd fun z42 hz43 => ?_
                    refine JL_st (wants_none rfl) rfl (st_append_od 6 0 Try.underlying42 ti_25 zi_25 rfl bi_25 rfl rfl rfl rfl rfl rfl hz43) (fun v44 => ?_)
                    refine JL_q (wants_none rfl) rfl (ex_assign rfl) ?_
                    refine JL_nil ?_
                    refine N_block ?_
                    refine N_then ?_
                    refine J_region ?_
                    refine JL_q (wants_none rfl) rfl (ex_add rfl rfl) ?_
                    refine JL_q (wants_none rfl) rfl (ex_move rfl) ?_
                    refine JL_nil ?_
                    exact N_next' (v44, (g28_1 ++ (t33.B ++ []))) ⟨rfl, rfl, rfl, rfl, rfl, rfl, rfl, rfl, rfl, rfl, rfl, rfl, rfl, trivial⟩ [5, 6, 7, 8, 9, 10, 11, 12] rfl rfl
              · refine J_exit ?_
                refine N_then_exit ?_
                exact N_break' (g28_0, g28_1) ⟨rfl, rfl, rfl, rfl, rfl, rfl, rfl, rfl, rfl, rfl, rfl, rfl, rfl, trivial⟩ [0, 1, 2, 3, 4, 5, 6, 7] rfl rfl
            · obtain ⟨g28_0, g28_1⟩ := g28
              refine N_block ?_
              refine N_then ?_
              refine J_region ?_
              refine JL_q (wants_none rfl) rfl (ex_add rfl rfl) ?_
              refine JL_q (wants_none rfl) rfl (ex_move rfl) ?_
              refine JL_nil ?_
              exact N_next' (g28_0, g28_1) ⟨rfl, rfl, rfl, rfl, rfl, rfl, rfl, rfl, rfl, rfl, trivial⟩ [0, 1, 2, 3, 4] rfl rfl
          · refine J_exit ?_
            refine N_then_exit ?_
            exact N_break' (g14_0, g14_1) ⟨rfl, rfl, rfl, rfl, rfl, rfl, rfl, rfl, rfl, rfl, trivial⟩ [0, 1, 2, 3, 4] rfl rfl
        · obtain ⟨g14_0, g14_1⟩ := g14
          refine N_block ?_
          refine N_then ?_
          refine J_region ?_
          refine JL_q (wants_none rfl) rfl (ex_add rfl rfl) ?_
          refine JL_q (wants_none rfl) rfl (ex_move rfl) ?_
          refine JL_nil ?_
          exact N_next' (g14_0, g14_1) ⟨rfl, rfl, rfl, rfl, rfl, trivial⟩ [0, 1] rfl rfl
      · refine J_exit ?_
        refine N_then_exit ?_
        exact N_break' (g6_0, g6_1) ⟨rfl, rfl, rfl, rfl, rfl, trivial⟩ [0, 1] rfl rfl
    · obtain ⟨g6_0, g6_1⟩ := g6
      refine N_then ?_
      refine J_seq ?_
      refine J_region ?_
      refine JL_q (wants_none rfl) rfl (ex_move rfl) ?_
      refine JL_q (wants_none rfl) rfl (ex_assign rfl) ?_
      refine JL_q (wants_none rfl) rfl (ex_assign rfl) ?_
      refine JL_nil ?_
      refine N_then ?_
      refine J_ret ?_
      exact N_ret2 rfl (rv_tmp rfl) (rv_tmp rfl) (fun w hh => ⟨(g6_0, g6_1), rfl, hh.sel [1] rfl⟩)

set_option maxHeartbeats 40000000 in
theorem c_impl_SuccessorsOf (A : Nat → Prop) (w : World) (hA : ∀ k, A k → k < w.heap.size) (v0_ : Value) (p0 : (List GRewrite)) (hp0 : Rd A w v0_ p0) (v1_ : Value) (p1 : (List Int)) (hp1 : Rd A w v1_ p1) (r : (List (List Int)) × Int) (hr : F_impl_SuccessorsOf p0 p1 = some r) :
    Con Try.prog 21 [v0_, v1_] A w (fun x_ : Value × List Nat => .tuple #[x_.1, .int .i64 r.2]) (fun x_ => [.od 23 x_.1 r.1 x_.2]) := by
  refine Con_of (v := fun (r : (List (List Int)) × Int) (x_ : Value × List Nat) => .tuple #[x_.1, .int .i64 r.2]) (fs := fun r x_ => [.od 23 x_.1 r.1 x_.2]) Try.func21 rfl Try.ntmps21 rfl (((SH.start hA).start_rd rfl hp0).start_rd rfl hp1) rfl ?_ hr
  unfold F_impl_SuccessorsOf
  refine J_seq ?_
  refine J_region ?_
  refine JL_q (wants_none rfl) rfl (ex_assign rfl) ?_
  refine JL_q (wants_none rfl) rfl (ex_assign rfl) ?_
  refine JL_nil ?_
  refine N_then ?_
  refine J_seq ?_
  refine J_cut' (S' := Unit) (G' := Unit) (fun _ _ => [(0, v0_), (1, v1_)]) (fun _ _ => [.rd v0_ p0, .rd v1_ p1]) ?_ (fun s1 g2 => ?_)
  · refine J_seq ?_
    refine J_region ?_
    refine JL_q (wants_none rfl) rfl (ex_move rfl) ?_
    refine JL_bnd fun r3 hr4 => ?_
    refine JL_call (wants_none rfl) rfl Try.call50 rfl (Ca_of0 fun w hh => c_impl_ValidRewrites _ w (fun _ hk => hk.elim) _ _ (hh.rd0 1 rfl) _ hr4) (fun _ => ?_)
    refine JL_q (wants_none rfl) rfl (ex_not rfl) ?_
    refine JL_q (wants_none rfl) rfl (ex_move rfl) ?_
    refine JL_cond (fun h5 => ?_) (fun h5 => ?_)
    · refine JL_passed rfl rfl rfl h5 ?_
      refine JL_passed rfl rfl rfl h5 ?_
      refine JL_passed rfl rfl rfl h5 ?_
      refine JL_q (wants_none rfl) rfl (ex_pick_true rfl h5 rfl) ?_
      refine JL_nil ?_
      refine N_then ?_
      refine J_if_true rfl rfl ?_
      refine J_seq ?_
      refine J_region ?_
      refine JL_q (wants_none rfl) rfl (ex_assign rfl) ?_
      refine JL_q (wants_none rfl) rfl (ex_assign rfl) ?_
      refine JL_nil ?_
      refine N_then ?_
      refine J_ret ?_
      refine N_mid_ret ?_
      refine N_then_ret ?_
      refine N_ctx (fun w hh => SH.od_nil (α := (List Int)) 23 hh) ?_
      exact N_ret2 rfl (rv_tmp rfl) (rv_tmp rfl) (fun w hh => ⟨((.slice none 0 0 : Value), ([] : List Nat)), rfl, hh.sel [0] rfl⟩)
    · refine JL_q (wants_some rfl rfl rfl h5) rfl (ex_move rfl) ?_
      refine JL_bnd fun r6 hr7 => ?_
      refine JL_call (wants_some rfl rfl rfl h5) rfl Try.call53 rfl (Ca_of0 fun w hh => c_impl_IsWord _ w (fun _ hk => hk.elim) _ _ (hh.rd0 0 rfl) _ hr7) (fun _ => ?_)
      refine JL_q (wants_some rfl rfl rfl h5) rfl (ex_not rfl) ?_
      refine JL_q (wants_none rfl) rfl (ex_pick_false rfl h5 rfl) ?_
      refine JL_nil ?_
      refine N_then ?_
      refine J_if rfl (fun h8 => ?_) (fun h8 => ?_)
      · refine J_seq ?_
        refine J_region ?_
        refine JL_q (wants_none rfl) rfl (ex_assign rfl) ?_
        refine JL_q (wants_none rfl) rfl (ex_assign rfl) ?_
        refine JL_nil ?_
        refine N_then ?_
        refine J_ret ?_
        refine N_mid_ret ?_
        refine N_then_ret ?_
        refine N_ctx (fun w hh => SH.od_nil (α := (List Int)) 23 hh) ?_
        exact N_ret2 rfl (rv_tmp rfl) (rv_tmp rfl) (fun w hh => ⟨((.slice none 0 0 : Value), ([] : List Nat)), rfl, hh.sel [0] rfl⟩)
      · refine J_skip ?_
        exact N_meet' () ⟨rfl, rfl, trivial⟩ [1, 0] rfl rfl
  · refine N_then ?_
    refine J_seq ?_
    refine J_region ?_
    refine JL_q (wants_none rfl) rfl (ex_move rfl) ?_
    refine JL_q (wants_none rfl) rfl (ex_move rfl) ?_
    refine JL_bnd fun r9 hr10 => ?_
    refine JL_call (wants_none rfl) rfl Try.call54 rfl (Ca_self (fun _ => rfl) fun w hh => c_impl_movesOf _ w (fun _ hk => hk.elim) _ _ (hh.rd0 0 rfl) _ _ (hh.rd0 1 rfl) _ hr10) (fun x11 => ?_)
    obtain ⟨x11_0, x11_1⟩ := x11
    refine JL_q (wants_none rfl) rfl (ex_move rfl) ?_
    refine JL_q (wants_none rfl) rfl (ex_extract rfl rfl) ?_
    refine JL_q (wants_none rfl) rfl (ex_extract rfl rfl) ?_
    refine JL_q (wants_none rfl) rfl (ex_assign rfl) ?_
    refine JL_q (wants_none rfl) rfl (ex_assign rfl) ?_
    refine JL_nil ?_
    refine N_then ?_
    refine J_seq ?_
    refine J_region ?_
    refine JL_st (wants_none rfl) rfl (st_makeMap (κ := ByteArray) (ν := Bool) (enc := Value.string) (venc := Value.bool)) (fun b12 => ?_)
    refine JL_st (wants_none rfl) rfl (st_buildSlice_od (vs := []) (B := ([] : List Nat)) ([] : List (List Int)) [] Try.underlying25 ti_23 zi_23 rfl rfl rfl rfl rfl (fun w hh => dwv_nil)) (fun b13 => ?_)
    refine JL_q (wants_none rfl) rfl (ex_assign rfl) ?_
    refine JL_q (wants_none rfl) rfl (ex_assign rfl) ?_
    refine JL_nil ?_
    refine N_then ?_
    refine J_seq ?_
    refine J_seq ?_
    refine J_region ?_
    refine JL_q (wants_none rfl) rfl (ex_move rfl) ?_
    refine JL_q (wants_none rfl) rfl (ex_od 2 rfl (ex_len_ow 2 Try.underlying90 rfl rfl)) ?_
    refine JL_q (wants_none rfl) rfl (ex_move rfl) ?_
    refine JL_nil ?_
    refine N_then ?_
    refine J_tail 2 rfl 0 (fun ts14 hts15 hln16 => ?_)
    refine J_loop' (S := List (ByteArray × Bool) × (List (List Int)) × Int) (G := Value × List Nat) (F_impl_SuccessorsOf_L1 r9) (fun s17 g18 => [(8, .map (some b12)), (9, g18.1), (29, x11_0), (30, .int .i64 (r9.1.length : Int)), (31, .int .i64 s17.2.2)]) (fun s17 g18 => [mpf Value.string Value.bool b12 s17.1, .od 23 g18.1 s17.2.1 g18.2, .rd x11_0 r9.1, .rd x11_0 ts14, hld (tlB ts14 s17.2.2)]) (([] : List (ByteArray × Bool)), ([] : List (List Int)), 0) ((.slice (some ⟨b13, 0, none⟩) 0 0), ([] : List Nat)) ⟨rfl, rfl, rfl, rfl, rfl, trivial⟩ [3, 2, 4, 1, 0] rfl rfl (fun s17 g18 => ?_) (fun s17 g18 => ?_)
    · obtain ⟨g18_0, g18_1⟩ := g18
      unfold F_impl_SuccessorsOf_L1
      refine J_seq ?_
      refine J_region ?_
      refine JL_q (wants_none rfl) rfl (ex_lss rfl rfl) ?_
      refine JL_nil ?_
      refine N_then ?_
      refine J_seq ?_
      refine J_if rfl (fun h19 => ?_) (fun h19 => ?_)
      · refine J_skip ?_
        refine N_then ?_
        refine J_seq ?_
        refine J_block ?_
        refine J_seq ?_
        refine J_region ?_
        refine JL_bnd fun y20 hy21 => ?_
        obtain ⟨t23, ht24, hx25⟩ := tl_idx hts15 hy21
        refine JL_st (wants_none rfl) rfl (st_index 3 Try.underlying90 ti_95 rfl rfl rfl ht24) (fun q22 => ?_)
        refine JL_st (wants_none rfl) rfl (st_load_pt_o 0 (Gmove.opT t23 hx25) ti_95 rfl rfl) (fun v26 => ?_)
        refine JL_ctx (fun w hh => hh.tl_take 0 6 rfl rfl (tl_next hln16 ht24)) ?_
        refine JL_st (wants_none rfl) rfl (st_alloc zi_95 rfl) (fun b27 => ?_)
        refine JL_sk (wants_none rfl) (sk_store_bx' 0 ti_95 rfl rfl (fun w hh => (cv_aggs ⟨cv_int, cv_int, (hh.cv 1 rfl), trivial⟩)) rfl rfl rfl rfl) ?_
        refine JL_nil ?_
        refine N_then ?_
        refine J_seq ?_
        refine J_region ?_
        refine JL_q (wants_none rfl) rfl (ex_fieldAddr fi_95_2 rfl rfl) ?_
        refine JL_q (wants_none rfl) rfl (ex_load_bx 0 ti_23 rfl rfl rfl) ?_
        refine JL_bnd fun r28 hr29 => ?_
        refine JL_call (wants_none rfl) rfl Try.call55 rfl (Ca_of0 fun w hh => c_impl_keyOf _ w (fun _ hk => hk.elim) _ _ (hh.rd0 1 rfl) _ hr29) (fun _ => ?_)
        refine JL_q (wants_none rfl) rfl (ex_assign rfl) ?_
        refine JL_nil ?_
        refine N_then ?_
        refine J_seq ?_
        refine J_region ?_
        refine JL_q (wants_none rfl) rfl (ex_move rfl) ?_
        refine JL_q (wants_none rfl) rfl (ex_move rfl) ?_
        refine JL_q (wants_none rfl) rfl (ex_lookup (x := r28) (z := false) 5 key_9 Try.underlying93 zi_4 rfl rfl rfl rfl rfl) ?_
        refine JL_q (wants_none rfl) rfl (ex_not rfl) ?_
        refine JL_nil ?_
        refine N_then ?_
        refine J_if rfl (fun h30 => ?_) (fun h30 => ?_)
        · refine J_seq ?_
          refine J_region ?_
          refine JL_q (wants_none rfl) rfl (ex_move rfl) ?_
          refine JL_q (wants_none rfl) rfl (ex_move rfl) ?_
          refine JL_sk (wants_none rfl) (sk_mapUpdate (x := r28) (y := true) 5 key_9 Try.underlying93 rfl rfl rfl rfl rfl rfl rfl rfl) ?_
          refine JL_nil ?_
          refine N_then ?_
          refine J_region ?_
          refine JL_q (wants_none rfl) rfl (ex_move rfl) ?_
          refine JL_q (wants_none rfl) rfl (ex_fieldAddr fi_95_2 rfl rfl) ?_
          refine JL_q (wants_none rfl) rfl (ex_load_bx 0 ti_23 rfl rfl rfl) ?_
          refine JL_st (wants_none rfl) rfl (st_buildSlice_od (vs := [v26]) (B := (t23.B ++ [])) ([y20.word] : List (List Int)) [2] Try.underlying25 ti_23 zi_23 rfl rfl rfl rfl rfl (fun w hh => (dwv_cons (hh.dw 2 rfl) dwv_nil))) (fun b31 => ?_)
          refine JL_bnd fun z32 hz33 => ?_
          refine JL_st (wants_none rfl) rfl (st_append_od 7 0 Try.underlying25 ti_23 zi_23 rfl bi_23 rfl rfl rfl rfl rfl rfl hz33) (fun v34 => ?_)
          refine JL_q (wants_none rfl) rfl (ex_assign rfl) ?_
          refine JL_nil ?_
          refine N_block ?_
          refine N_then ?_
          refine J_region ?_
          refine JL_q (wants_none rfl) rfl (ex_add rfl rfl) ?_
          refine JL_q (wants_none rfl) rfl (ex_move rfl) ?_
          refine JL_nil ?_
          exact N_next' (v34, (g18_1 ++ (t23.B ++ []))) ⟨rfl, rfl, rfl, rfl, rfl, trivial⟩ [6, 7, 8, 9, 10] rfl rfl
        · refine J_skip ?_
          refine N_block ?_
          refine N_then ?_
          refine J_region ?_
          refine JL_q (wants_none rfl) rfl (ex_add rfl rfl) ?_
          refine JL_q (wants_none rfl) rfl (ex_move rfl) ?_
          refine JL_nil ?_
          exact N_next' (g18_0, g18_1) ⟨rfl, rfl, rfl, rfl, rfl, trivial⟩ [5, 6, 7, 8, 9] rfl rfl
      · refine J_exit ?_
        refine N_then_exit ?_
        exact N_break' (g18_0, g18_1) ⟨rfl, rfl, rfl, rfl, rfl, trivial⟩ [0, 1, 2, 3, 4] rfl rfl
    · obtain ⟨g18_0, g18_1⟩ := g18
      refine N_then ?_
      refine J_seq ?_
      refine J_region ?_
      refine JL_q (wants_none rfl) rfl (ex_move rfl) ?_
      refine JL_q (wants_none rfl) rfl (ex_assign rfl) ?_
      refine JL_q (wants_none rfl) rfl (ex_assign rfl) ?_
      refine JL_nil ?_
      refine N_then ?_
      refine J_ret ?_
      exact N_ret2 rfl (rv_tmp rfl) (rv_tmp rfl) (fun w hh => ⟨(g18_0, g18_1), rfl, hh.sel [1] rfl⟩)

set_option maxHeartbeats 40000000 in
theorem c_laws_b10Nums (A : Nat → Prop) (w : World) (hA : ∀ k, A k → k < w.heap.size) (v0_ : Value) (p0 : (List Int)) (hp0 : Rd A w v0_ p0) (v1_ : Value) (p1 : (List Int)) (hp1 : Rd A w v1_ p1) (r : Bool) (hr : F_laws_b10Nums p0 p1 = some r) :
    Con Try.prog 56 [v0_, v1_] A w (fun x_ : Unit => .bool r) (fun x_ => []) := by
  refine Con_of (v := fun (r : Bool) (x_ : Unit) => .bool r) (fs := fun r x_ => []) Try.func56 rfl Try.ntmps56 rfl (((SH.start hA).start_rd rfl hp0).start_rd rfl hp1) rfl ?_ hr
  unfold F_laws_b10Nums
  refine J_seq ?_
  refine J_region ?_
  refine JL_q (wants_none rfl) rfl (ex_assign rfl) ?_
  refine JL_nil ?_
  refine N_then ?_
  refine J_seq ?_
  refine J_seq ?_
  refine J_region ?_
  refine JL_q (wants_none rfl) rfl (ex_move rfl) ?_
  refine JL_q (wants_none rfl) rfl (ex_len_rd 1 Try.underlying23 rfl rfl) ?_
  refine JL_q (wants_none rfl) rfl (ex_move rfl) ?_
  refine JL_q (wants_none rfl) rfl (ex_len_rd 0 Try.underlying23 rfl rfl) ?_
  refine JL_q (wants_none rfl) rfl (ex_neq rfl rfl) ?_
  refine JL_nil ?_
  refine N_then ?_
  refine J_if rfl (fun h1 => ?_) (fun h1 => ?_)
  · refine J_seq ?_
    refine J_region ?_
    refine JL_q (wants_none rfl) rfl (ex_assign rfl) ?_
    refine JL_nil ?_
    refine N_then ?_
    refine J_ret ?_
    refine N_then_ret ?_
    exact N_ret1 rfl (rv_tmp rfl) (fun w hh => ⟨(), rfl, hh.sel [] rfl⟩)
  · refine J_skip ?_
    refine N_then ?_
    refine J_seq ?_
    refine J_seq ?_
    refine J_region ?_
    refine JL_q (wants_none rfl) rfl (ex_assign rfl) ?_
    refine JL_nil ?_
    refine N_then ?_
    refine J_loop' (S := Int) (G := Unit) (F_laws_b10Nums_L1 p0 p1) (fun s2 _ => [(0, v0_), (1, v1_), (5, .int .i64 s2)]) (fun s2 _ => [.rd v0_ p0, .rd v1_ p1]) 0 () ⟨rfl, rfl, rfl, trivial⟩ [1, 0] rfl rfl (fun s2 g3 => ?_) (fun s2 g3 => ?_)
    · unfold F_laws_b10Nums_L1
      refine J_seq ?_
      refine J_seq ?_
      refine J_region ?_
      refine JL_q (wants_none rfl) rfl (ex_move rfl) ?_
      refine JL_q (wants_none rfl) rfl (ex_move rfl) ?_
      refine JL_q (wants_none rfl) rfl (ex_len_rd 0 Try.underlying23 rfl rfl) ?_
      refine JL_q (wants_none rfl) rfl (ex_lss rfl rfl) ?_
      refine JL_nil ?_
      refine N_then ?_
      refine J_if rfl (fun h4 => ?_) (fun h4 => ?_)
      · refine J_skip ?_
        refine N_then ?_
        refine J_seq ?_
        refine J_block ?_
        refine J_seq ?_
        refine J_draw [] (by kernel_rfl) ?_
        refine JP_take (i := 0) [0, 1] [] rfl (by kernel_rfl) (by kernel_rfl) (by kernel_rfl) rfl rfl (wants_none rfl) rfl (ex_move rfl) ?_
        refine JP_take (i := 1) [0, 1] [] rfl (by kernel_rfl) (by kernel_rfl) (by kernel_rfl) rfl rfl (wants_none rfl) rfl (ex_move rfl) ?_
        refine JP_bnd fun y5 hy6 => ?_
        refine JP_sq (i := 2) [] rfl (by kernel_rfl) (by kernel_rfl) (by kernel_rfl) rfl (wants_none rfl) rfl (sq_index 0 Try.underlying23 ti_2 rfl rfl rfl hy6) (fun q7 => ?_)
        refine JP_sq (i := 3) [] rfl (by kernel_rfl) (by kernel_rfl) (by kernel_rfl) rfl (wants_none rfl) rfl (sq_load_pt_o 0 (opens_int _) ti_2 rfl rfl) (fun _ => ?_)
        refine JP_take (i := 4) [0, 1, 2] [] rfl (by kernel_rfl) (by kernel_rfl) (by kernel_rfl) rfl rfl (wants_none rfl) rfl (ex_move rfl) ?_
        refine JP_take (i := 5) [0, 1, 2] [] rfl (by kernel_rfl) (by kernel_rfl) (by kernel_rfl) rfl rfl (wants_none rfl) rfl (ex_move rfl) ?_
        refine JP_bnd fun y9 hy10 => ?_
        refine JP_sq (i := 6) [] rfl (by kernel_rfl) (by kernel_rfl) (by kernel_rfl) rfl (wants_none rfl) rfl (sq_index 2 Try.underlying23 ti_2 rfl rfl rfl hy10) (fun q11 => ?_)
        refine JP_sq (i := 7) [] rfl (by kernel_rfl) (by kernel_rfl) (by kernel_rfl) rfl (wants_none rfl) rfl (sq_load_pt_o 0 (opens_int _) ti_2 rfl rfl) (fun _ => ?_)
        refine JP_take (i := 8) [0, 1, 2, 3] [] rfl (by kernel_rfl) (by kernel_rfl) (by kernel_rfl) rfl rfl (wants_none rfl) rfl (ex_neq rfl rfl) ?_
        refine JP_go [] [] rfl rfl rfl (fun _ _ _ => ?_)
        refine JD_done (by kernel_rfl) ?_
        refine N_then ?_
        refine J_if rfl (fun h13 => ?_) (fun h13 => ?_)
        · refine J_seq ?_
          refine J_region ?_
          refine JL_q (wants_none rfl) rfl (ex_assign rfl) ?_
          refine JL_nil ?_
          refine N_then ?_
          refine J_ret ?_
          refine N_block_ret ?_
          refine N_then_ret ?_
          refine N_round_ret ?_
          refine N_then_ret ?_
          exact N_ret1 rfl (rv_tmp rfl) (fun w hh => ⟨(), rfl, hh.sel [] rfl⟩)
        · refine J_skip ?_
          refine N_block ?_
          refine N_then ?_
          refine J_region ?_
          refine JL_q (wants_none rfl) rfl (ex_move rfl) ?_
          refine JL_q (wants_none rfl) rfl (ex_add rfl rfl) ?_
          refine JL_q (wants_none rfl) rfl (ex_assign rfl) ?_
          refine JL_nil ?_
          exact N_next' () ⟨rfl, rfl, rfl, trivial⟩ [2, 3] rfl rfl
      · refine J_exit ?_
        refine N_then_exit ?_
        exact N_break' () ⟨rfl, rfl, rfl, trivial⟩ [0, 1] rfl rfl
    · refine N_then ?_
      refine J_seq ?_
      refine J_region ?_
      refine JL_q (wants_none rfl) rfl (ex_assign rfl) ?_
      refine JL_nil ?_
      refine N_then ?_
      refine J_ret ?_
      exact N_ret1 rfl (rv_tmp rfl) (fun w hh => ⟨(), rfl, hh.sel [] rfl⟩)

set_option maxHeartbeats 40000000 in
theorem c_laws_b10Row (A : Nat → Prop) (w : World) (hA : ∀ k, A k → k < w.heap.size) (v0_ : Value) (p0 : (List (List Int))) (hp0 : Rd A w v0_ p0) (v1_ : Value) (p1 : (List Int)) (hp1 : Rd A w v1_ p1) (r : Bool) (hr : F_laws_b10Row p0 p1 = some r) :
    Con Try.prog 22 [v0_, v1_] A w (fun x_ : Unit => .bool r) (fun x_ => []) := by
  refine Con_of (v := fun (r : Bool) (x_ : Unit) => .bool r) (fs := fun r x_ => []) Try.func22 rfl Try.ntmps22 rfl (((SH.start hA).start_rd rfl hp0).start_rd rfl hp1) rfl ?_ hr
  unfold F_laws_b10Row
  refine J_seq ?_
  refine J_region ?_
  refine JL_q (wants_none rfl) rfl (ex_assign rfl) ?_
  refine JL_nil ?_
  refine N_then ?_
  refine J_seq ?_
  refine J_seq ?_
  refine J_region ?_
  refine JL_q (wants_none rfl) rfl (ex_assign rfl) ?_
  refine JL_nil ?_
  refine N_then ?_
  refine J_loop' (S := Int) (G := Unit) (F_laws_b10Row_L1 p0 p1) (fun s1 _ => [(0, v0_), (1, v1_), (5, .int .i64 s1)]) (fun s1 _ => [.rd v0_ p0, .rd v1_ p1]) 0 () ⟨rfl, rfl, rfl, trivial⟩ [1, 0] rfl rfl (fun s1 g2 => ?_) (fun s1 g2 => ?_)
  · unfold F_laws_b10Row_L1
    refine J_seq ?_
    refine J_seq ?_
    refine J_region ?_
    refine JL_q (wants_none rfl) rfl (ex_move rfl) ?_
    refine JL_q (wants_none rfl) rfl (ex_move rfl) ?_
    refine JL_q (wants_none rfl) rfl (ex_len_rd 0 Try.underlying25 rfl rfl) ?_
    refine JL_q (wants_none rfl) rfl (ex_lss rfl rfl) ?_
    refine JL_nil ?_
    refine N_then ?_
    refine J_if rfl (fun h3 => ?_) (fun h3 => ?_)
    · refine J_skip ?_
      refine N_then ?_
      refine J_seq ?_
      refine J_block ?_
      refine J_seq ?_
      refine J_region ?_
      refine JL_q (wants_none rfl) rfl (ex_move rfl) ?_
      refine JL_q (wants_none rfl) rfl (ex_move rfl) ?_
      refine JL_bnd fun y4 hy5 => ?_
      refine JL_st (wants_none rfl) rfl (st_index 0 Try.underlying25 ti_23 rfl rfl rfl hy5) (fun q6 => ?_)
      refine JL_st (wants_none rfl) rfl (st_load_pt_o 0 (opens_sl _) ti_23 rfl rfl) (fun v7 => ?_)
      refine JL_q (wants_none rfl) rfl (ex_move rfl) ?_
      refine JL_bnd fun r8 hr9 => ?_
      refine JL_call (wants_none rfl) rfl Try.call56 rfl (Ca_of0 fun w hh => c_laws_b10Nums _ w (fun _ hk => hk.elim) _ _ (hh.rd0 0 rfl) _ _ (hh.rd0 3 rfl) _ hr9) (fun _ => ?_)
      refine JL_nil ?_
      refine N_then ?_
      refine J_if rfl (fun h10 => ?_) (fun h10 => ?_)
      · refine J_seq ?_
        refine J_region ?_
        refine JL_q (wants_none rfl) rfl (ex_assign rfl) ?_
        refine JL_nil ?_
        refine N_then ?_
        refine J_ret ?_
        refine N_block_ret ?_
        refine N_then_ret ?_
        refine N_round_ret ?_
        refine N_then_ret ?_
        exact N_ret1 rfl (rv_tmp rfl) (fun w hh => ⟨(), rfl, hh.sel [] rfl⟩)
      · refine J_skip ?_
        refine N_block ?_
        refine N_then ?_
        refine J_region ?_
        refine JL_q (wants_none rfl) rfl (ex_move rfl) ?_
        refine JL_q (wants_none rfl) rfl (ex_add rfl rfl) ?_
        refine JL_q (wants_none rfl) rfl (ex_assign rfl) ?_
        refine JL_nil ?_
        exact N_next' () ⟨rfl, rfl, rfl, trivial⟩ [2, 3] rfl rfl
    · refine J_exit ?_
      refine N_then_exit ?_
      exact N_break' () ⟨rfl, rfl, rfl, trivial⟩ [0, 1] rfl rfl
  · refine N_then ?_
    refine J_seq ?_
    refine J_region ?_
    refine JL_q (wants_none rfl) rfl (ex_assign rfl) ?_
    refine JL_nil ?_
    refine N_then ?_
    refine J_ret ?_
    exact N_ret1 rfl (rv_tmp rfl) (fun w hh => ⟨(), rfl, hh.sel [] rfl⟩)

set_option maxHeartbeats 40000000 in
theorem c_impl_AreJoinable (A : Nat → Prop) (w : World) (hA : ∀ k, A k → k < w.heap.size) (v0_ : Value) (p0 : (List GRewrite)) (hp0 : Rd A w v0_ p0) (v1_ : Value) (p1 : (List Int)) (hp1 : Rd A w v1_ p1) (v2_ : Value) (p2 : (List Int)) (hp2 : Rd A w v2_ p2) (p3 : Int) (r : Bool × Int) (hr : F_impl_AreJoinable p0 p1 p2 p3 = some r) :
    Con Try.prog 23 [v0_, v1_, v2_, .int .i64 p3] A w (fun x_ : Unit => .tuple #[.bool r.1, .int .i64 r.2]) (fun x_ => []) := by
  refine Con_of (v := fun (r : Bool × Int) (x_ : Unit) => .tuple #[.bool r.1, .int .i64 r.2]) (fs := fun r x_ => []) Try.func23 rfl Try.ntmps23 rfl ((((SH.start hA).start_rd rfl hp0).start_rd rfl hp1).start_rd rfl hp2) rfl ?_ hr
  unfold F_impl_AreJoinable
  refine J_seq ?_
  refine J_region ?_
  refine JL_q (wants_none rfl) rfl (ex_assign rfl) ?_
  refine JL_q (wants_none rfl) rfl (ex_assign rfl) ?_
  refine JL_nil ?_
  refine N_then ?_
  refine J_seq ?_
  refine J_seq ?_
  refine J_region ?_
  refine JL_q (wants_none rfl) rfl (ex_move rfl) ?_
  refine JL_q (wants_none rfl) rfl (ex_move rfl) ?_
  refine JL_q (wants_none rfl) rfl (ex_move rfl) ?_
  refine JL_q (wants_none rfl) rfl (ex_move rfl) ?_
  refine JL_st (wants_none rfl) rfl (st_buildSlice (vs := [v1_, v2_]) ([p1, p2] : List (List Int)) Try.underlying25 ti_23 zi_23 rfl rfl rfl (fun w hh => ⟨(hh.rd 1 rfl), (hh.rd 0 rfl), trivial⟩)) (fun b1 => ?_)
  refine JL_bnd fun r2 hr3 => ?_
  refine JL_call (wants_none rfl) rfl Try.call57 rfl (Ca_of0 fun w hh => c_impl_searchCode _ w (fun _ hk => hk.elim) _ _ (hh.rd0 3 rfl) _ _ _ (hh.ow0 0 rfl) _ hr3) (fun _ => ?_)
  refine JL_q (wants_none rfl) rfl (ex_assign rfl) ?_
  refine JL_nil ?_
  refine N_then ?_
  refine J_seq ?_
  refine J_region ?_
  refine JL_q (wants_none rfl) rfl (ex_move rfl) ?_
  refine JL_q (wants_none rfl) rfl (ex_neq rfl rfl) ?_
  refine JL_nil ?_
  refine N_then ?_
  refine J_if rfl (fun h4 => ?_) (fun h4 => ?_)
  · refine J_seq ?_
    refine J_region ?_
    refine JL_q (wants_none rfl) rfl (ex_move rfl) ?_
    refine JL_q (wants_none rfl) rfl (ex_assign rfl) ?_
    refine JL_q (wants_none rfl) rfl (ex_assign rfl) ?_
    refine JL_nil ?_
    refine N_then ?_
    refine J_ret ?_
    refine N_then_ret ?_
    exact N_ret2 rfl (rv_tmp rfl) (rv_tmp rfl) (fun w hh => ⟨(), rfl, hh.sel [] rfl⟩)
  · refine J_skip ?_
    refine N_then ?_
    refine J_seq ?_
    refine J_region ?_
    refine JL_q (wants_none rfl) rfl (ex_move rfl) ?_
    refine JL_q (wants_none rfl) rfl (ex_move rfl) ?_
    refine JL_q (wants_none rfl) rfl (ex_move rfl) ?_
    refine JL_bnd fun r5 hr6 => ?_
    refine JL_call (wants_none rfl) rfl Try.call58 rfl (Ca_of (fun _ => rfl) fun w hh => c_impl_searched _ w hh.av' _ _ (hh.rd 3 rfl) _ _ (hh.rd 2 rfl) _ _ hr6) (fun x7 => ?_)
    obtain ⟨x7_0, x7_1, x7_2, x7_3⟩ := x7
    refine JL_q (wants_none rfl) rfl (ex_move rfl) ?_
    refine JL_q (wants_none rfl) rfl (ex_move rfl) ?_
    refine JL_q (wants_none rfl) rfl (ex_move rfl) ?_
    refine JL_bnd fun r8 hr9 => ?_
    refine JL_call (wants_none rfl) rfl Try.call58 rfl (Ca_of (fun _ => rfl) fun w hh => c_impl_searched _ w hh.av' _ _ (hh.rd 6 rfl) _ _ (hh.rd 4 rfl) _ _ hr9) (fun x10 => ?_)
    obtain ⟨x10_0, x10_1, x10_2, x10_3⟩ := x10
    refine JL_q (wants_none rfl) rfl (ex_assign rfl) ?_
    refine JL_q (wants_none rfl) rfl (ex_assign rfl) ?_
    refine JL_nil ?_
    refine N_then ?_
    refine J_seq ?_
    refine J_seq ?_
    refine J_region ?_
    refine JL_q (wants_none rfl) rfl (ex_move rfl) ?_
    refine JL_q (wants_none rfl) rfl (ex_nilCheck rfl) ?_
    refine JL_q (wants_none rfl) rfl (ex_fieldAddr fi_103_1 rfl rfl) ?_
    refine JL_q (wants_none rfl) rfl (ex_load_bx 4 ti_101 rfl rfl rfl) ?_
    refine JL_range 5 Try.underlying101 rfl rfl rfl (wants_none rfl) rfl (fun r11 es12 ck13 hE14 => ?_)
    refine JL_nil ?_
    refine N_then ?_
    refine J_range (enc := Value.string) (venc := (Value.int .i64)) (S := Unit) (G := Unit) r5.2.1 (F_impl_AreJoinable_L1 r8) (fun _ _ => [(11, .pointer (some ⟨x7_2, 0, none⟩)), (12, .pointer (some ⟨x10_2, 0, none⟩)), (37, .pointer (some ⟨r11, 0, none⟩))]) (fun _ _ => [.od 147 x7_0 r5.1 x7_1, .bx x7_2 103 [x7_0, .map (some x7_3), .bool r5.2.2], .od 147 x10_0 r8.1 x10_1, mpf Value.string (Value.int .i64) x10_3 r8.2.1, .bx x10_2 103 [x10_0, .map (some x10_3), .bool r8.2.2]]) hE14 () () ⟨rfl, rfl, rfl, trivial⟩ [5, 3, 4, 0, 2, 1] rfl rfl (by decide) (fun _ _ => rfl) rfl rfl (fun _ _ => ⟨rfl, rfl⟩) (fun s21 g22 sn_20 e16 kv15 he17 hk18 hv19 => ?_) (fun s21 g22 sn_20 => ?_)
    · unfold F_impl_AreJoinable_L1
      refine J_block ?_
      refine J_seq ?_
      refine J_region ?_
      refine JL_q (wants_none rfl) rfl (ex_entry 0 hE14.2 he17 hk18 hv19 rfl rfl) ?_
      refine JL_q (wants_none rfl) rfl (ex_extract rfl rfl) ?_
      refine JL_q (wants_none rfl) rfl (ex_assign rfl) ?_
      refine JL_nil ?_
      refine N_then ?_
      refine J_seq ?_
      refine J_region ?_
      refine JL_q (wants_none rfl) rfl (ex_move rfl) ?_
      refine JL_q (wants_none rfl) rfl (ex_nilCheck rfl) ?_
      refine JL_q (wants_none rfl) rfl (ex_fieldAddr fi_103_1 rfl rfl) ?_
      refine JL_q (wants_none rfl) rfl (ex_load_bx 5 ti_101 rfl rfl rfl) ?_
      refine JL_q (wants_none rfl) rfl (ex_move rfl) ?_
      refine JL_q (wants_none rfl) rfl (ex_lookup_ok (x := kv15.1) (z := 0) 4 key_9 Try.underlying101 zi_3 rfl rfl rfl rfl rfl) ?_
      refine JL_q (wants_none rfl) rfl (ex_move rfl) ?_
      refine JL_q (wants_none rfl) rfl (ex_extract rfl rfl) ?_
      refine JL_q (wants_none rfl) rfl (ex_extract rfl rfl) ?_
      refine JL_q (wants_none rfl) rfl (ex_assign rfl) ?_
      refine JL_q (wants_none rfl) rfl (ex_assign rfl) ?_
      refine JL_nil ?_
      refine N_then ?_
      refine J_seq ?_
      refine J_region ?_
      refine JL_q (wants_none rfl) rfl (ex_move rfl) ?_
      refine JL_nil ?_
      refine N_then ?_
      refine J_if rfl (fun h23 => ?_) (fun h23 => ?_)
      · refine J_seq ?_
        refine J_region ?_
        refine JL_q (wants_none rfl) rfl (ex_assign rfl) ?_
        refine JL_q (wants_none rfl) rfl (ex_assign rfl) ?_
        refine JL_nil ?_
        refine N_then ?_
        refine J_ret ?_
        refine N_block_ret ?_
        refine N_round_ret ?_
        refine N_then_ret ?_
        exact N_ret2 rfl (rv_tmp rfl) (rv_tmp rfl) (fun w hh => ⟨(), rfl, hh.sel [] rfl⟩)
      · refine J_skip ?_
        refine N_block ?_
        exact N_next' () ⟨rfl, rfl, rfl, trivial⟩ [0, 1, 2, 3, 4, 5] rfl rfl
    · refine N_ctx (fun w hh => hh.unrange 0 rfl hE14) ?_
      refine N_then ?_
      refine J_seq ?_
      refine J_seq ?_
      refine J_region ?_
      refine JL_q (wants_none rfl) rfl (ex_move rfl) ?_
      refine JL_q (wants_none rfl) rfl (ex_nilCheck rfl) ?_
      refine JL_q (wants_none rfl) rfl (ex_fieldAddr fi_103_2 rfl rfl) ?_
      refine JL_q (wants_none rfl) rfl (ex_load_bx 2 ti_4 rfl rfl rfl) ?_
      refine JL_q (wants_none rfl) rfl (ex_not rfl) ?_
      refine JL_q (wants_none rfl) rfl (ex_move rfl) ?_
      refine JL_cond (fun h24 => ?_) (fun h24 => ?_)
      · refine JL_passed rfl rfl rfl h24 ?_
        refine JL_passed rfl rfl rfl h24 ?_
        refine JL_passed rfl rfl rfl h24 ?_
        refine JL_passed rfl rfl rfl h24 ?_
        refine JL_passed rfl rfl rfl h24 ?_
        refine JL_q (wants_none rfl) rfl (ex_pick_true rfl h24 rfl) ?_
        refine JL_nil ?_
        refine N_then ?_
        refine J_if_true rfl rfl ?_
        refine J_seq ?_
        refine J_region ?_
        refine JL_q (wants_none rfl) rfl (ex_assign rfl) ?_
        refine JL_q (wants_none rfl) rfl (ex_assign rfl) ?_
        refine JL_nil ?_
        refine N_then ?_
        refine J_ret ?_
        refine N_then_ret ?_
        exact N_ret2 rfl (rv_tmp rfl) (rv_tmp rfl) (fun w hh => ⟨(), rfl, hh.sel [] rfl⟩)
      · refine JL_q (wants_some rfl rfl rfl h24) rfl (ex_move rfl) ?_
        refine JL_q (wants_some rfl rfl rfl h24) rfl (ex_nilCheck rfl) ?_
        refine JL_q (wants_some rfl rfl rfl h24) rfl (ex_fieldAddr fi_103_2 rfl rfl) ?_
        refine JL_q (wants_some rfl rfl rfl h24) rfl (ex_load_bx 5 ti_4 rfl rfl rfl) ?_
        refine JL_q (wants_some rfl rfl rfl h24) rfl (ex_not rfl) ?_
        refine JL_q (wants_none rfl) rfl (ex_pick_false rfl h24 rfl) ?_
        refine JL_nil ?_
        refine N_then ?_
        refine J_if rfl (fun h25 => ?_) (fun h25 => ?_)
        · refine J_seq ?_
          refine J_region ?_
          refine JL_q (wants_none rfl) rfl (ex_assign rfl) ?_
          refine JL_q (wants_none rfl) rfl (ex_assign rfl) ?_
          refine JL_nil ?_
          refine N_then ?_
          refine J_ret ?_
          refine N_then_ret ?_
          exact N_ret2 rfl (rv_tmp rfl) (rv_tmp rfl) (fun w hh => ⟨(), rfl, hh.sel [] rfl⟩)
        · refine J_skip ?_
          refine N_then ?_
          refine J_seq ?_
          refine J_region ?_
          refine JL_q (wants_none rfl) rfl (ex_assign rfl) ?_
          refine JL_q (wants_none rfl) rfl (ex_assign rfl) ?_
          refine JL_nil ?_
          refine N_then ?_
          refine J_ret ?_
          exact N_ret2 rfl (rv_tmp rfl) (rv_tmp rfl) (fun w hh => ⟨(), rfl, hh.sel [] rfl⟩)

set_option maxHeartbeats 40000000 in
theorem c_laws_FnOverlaps (A : Nat → Prop) (w : World) (hA : ∀ k, A k → k < w.heap.size) (v0_ : Value) (p0 : (List (Ik .u8))) (hp0 : Rd A w v0_ p0) (r : Bool) (hr : F_laws_FnOverlaps p0 = some r) :
    Con Try.prog 4 [v0_] A w (fun x_ : Unit => .bool r) (fun x_ => []) := by
  refine Con_of (v := fun (r : Bool) (x_ : Unit) => .bool r) (fs := fun r x_ => []) Try.func4 rfl Try.ntmps4 rfl ((SH.start hA).start_rd rfl hp0) rfl ?_ hr
  unfold F_laws_FnOverlaps
  refine J_seq ?_
  refine J_region ?_
  refine JL_q (wants_none rfl) rfl (ex_assign rfl) ?_
  refine JL_nil ?_
  refine N_then ?_
  refine J_seq ?_
  refine J_seq ?_
  refine J_region ?_
  refine JL_q (wants_none rfl) rfl (ex_move rfl) ?_
  refine JL_bnd fun r1 hr2 => ?_
  refine JL_call (wants_none rfl) rfl Try.call18 rfl (Ca_of0 fun w hh => c_laws_b10Long _ w (fun _ hk => hk.elim) _ _ (hh.rd0 0 rfl) _ hr2) (fun _ => ?_)
  refine JL_nil ?_
  refine N_then ?_
  refine J_if rfl (fun h3 => ?_) (fun h3 => ?_)
  · refine J_seq ?_
    refine J_region ?_
    refine JL_q (wants_none rfl) rfl (ex_assign rfl) ?_
    refine JL_nil ?_
    refine N_then ?_
    refine J_ret ?_
    refine N_then_ret ?_
    exact N_ret1 rfl (rv_tmp rfl) (fun w hh => ⟨(), rfl, hh.sel [] rfl⟩)
  · refine J_skip ?_
    refine N_then ?_
    refine J_seq ?_
    refine J_region ?_
    refine JL_q (wants_none rfl) rfl (ex_move rfl) ?_
    refine JL_bnd fun r4 hr5 => ?_
    refine JL_call (wants_none rfl) rfl Try.call19 rfl (Ca_self (fun _ => rfl) fun w hh => c_spec_B10Shrinking _ w (fun _ hk => hk.elim) _ _ (hh.rd0 0 rfl) _ hr5) (fun x6 => ?_)
    obtain ⟨x6_0, x6_1, x6_2⟩ := x6
    refine JL_q (wants_none rfl) rfl (ex_move rfl) ?_
    refine JL_q (wants_none rfl) rfl (ex_extract rfl rfl) ?_
    refine JL_q (wants_none rfl) rfl (ex_extract rfl rfl) ?_
    refine JL_q (wants_none rfl) rfl (ex_assign rfl) ?_
    refine JL_q (wants_none rfl) rfl (ex_assign rfl) ?_
    refine JL_nil ?_
    refine N_then ?_
    refine J_seq ?_
    refine J_region ?_
    refine JL_q (wants_none rfl) rfl (ex_move rfl) ?_
    refine JL_bnd fun r7 hr8 => ?_
    refine JL_call (wants_none rfl) rfl Try.call20 rfl (Ca_self (fun _ => rfl) fun w hh => c_impl_OverlapsOf _ w (fun _ hk => hk.elim) _ _ (hh.od0 0 rfl) _ hr8) (fun x9 => ?_)
    obtain ⟨x9_0, x9_1⟩ := x9
    refine JL_q (wants_none rfl) rfl (ex_move rfl) ?_
    refine JL_q (wants_none rfl) rfl (ex_extract rfl rfl) ?_
    refine JL_q (wants_none rfl) rfl (ex_extract rfl rfl) ?_
    refine JL_q (wants_none rfl) rfl (ex_assign rfl) ?_
    refine JL_q (wants_none rfl) rfl (ex_assign rfl) ?_
    refine JL_nil ?_
    refine N_then ?_
    refine J_seq ?_
    refine J_seq ?_
    refine J_region ?_
    refine JL_q (wants_none rfl) rfl (ex_move rfl) ?_
    refine JL_q (wants_none rfl) rfl (ex_neq rfl rfl) ?_
    refine JL_nil ?_
    refine N_then ?_
    refine J_if rfl (fun h10 => ?_) (fun h10 => ?_)
    · refine J_seq ?_
      refine J_region ?_
      refine JL_q (wants_none rfl) rfl (ex_assign rfl) ?_
      refine JL_nil ?_
      refine N_then ?_
      refine J_ret ?_
      refine N_then_ret ?_
      exact N_ret1 rfl (rv_tmp rfl) (fun w hh => ⟨(), rfl, hh.sel [] rfl⟩)
    · refine J_skip ?_
      refine N_then ?_
      refine J_seq ?_
      refine J_region ?_
      refine JL_q (wants_none rfl) rfl (ex_assign rfl) ?_
      refine JL_nil ?_
      refine N_then ?_
      refine J_seq ?_
      refine J_seq ?_
      refine J_region ?_
      refine JL_q (wants_none rfl) rfl (ex_assign rfl) ?_
      refine JL_nil ?_
      refine N_then ?_
      refine J_ctx (fun w hh => hh.tok 1 rfl) ?_
      refine J_ctx (fun w hh => hh.tokf 3 rfl rfl) ?_
      refine J_ctx (fun w hh => hh.tok 2 rfl) ?_
      refine J_loop' (S := Bool × Int) (G := Unit) (F_laws_FnOverlaps_L1 r4 r7) (fun s11 _ => [(3, x6_0), (4, x6_2), (5, x9_0), (7, .bool s11.1), (8, .int .i64 s11.2)]) (fun s11 _ => [.rd x6_0 r4.1, .tkn x6_0 r4.1 ((x6_0 : Value).ownBlock.toList ++ x6_1), .rd x6_2 r4.2, .tkn x6_2 r4.2 ((x6_2 : Value).ownBlock.toList ++ []), .rd x9_0 r7.1, .tkn x9_0 r7.1 ((x9_0 : Value).ownBlock.toList ++ x9_1)]) (true, 0) () ⟨rfl, rfl, rfl, rfl, rfl, trivial⟩ [4, 2, 5, 1, 3, 0] rfl rfl (fun s11 g12 => ?_) (fun s11 g12 => ?_)
      · unfold F_laws_FnOverlaps_L1
        refine J_seq ?_
        refine J_seq ?_
        refine J_region ?_
        refine JL_q (wants_none rfl) rfl (ex_move rfl) ?_
        refine JL_q (wants_none rfl) rfl (ex_move rfl) ?_
        refine JL_q (wants_none rfl) rfl (ex_len_rd 4 Try.underlying42 rfl rfl) ?_
        refine JL_q (wants_none rfl) rfl (ex_lss rfl rfl) ?_
        refine JL_nil ?_
        refine N_then ?_
        refine J_if rfl (fun h13 => ?_) (fun h13 => ?_)
        · refine J_skip ?_
          refine N_then ?_
          refine J_seq ?_
          refine J_block ?_
          refine J_seq ?_
          refine J_seq ?_
          refine J_region ?_
          refine JL_q (wants_none rfl) rfl (ex_move rfl) ?_
          refine JL_q (wants_none rfl) rfl (ex_move rfl) ?_
          refine JL_bnd fun y14 hy15 => ?_
          refine JL_st (wants_none rfl) rfl (st_index 4 Try.underlying42 ti_25 rfl rfl rfl hy15) (fun q16 => ?_)
          refine JL_st (wants_none rfl) rfl (st_load_pt_o 0 (opens_sl _) ti_25 rfl rfl) (fun v17 => ?_)
          refine JL_q (wants_none rfl) rfl (ex_len_rd 0 Try.underlying25 rfl rfl) ?_
          refine JL_q (wants_none rfl) rfl (ex_neq rfl rfl) ?_
          refine JL_nil ?_
          refine N_then ?_
          refine J_if rfl (fun h18 => ?_) (fun h18 => ?_)
          · refine J_seq ?_
            refine J_region ?_
            refine JL_q (wants_none rfl) rfl (ex_assign rfl) ?_
            refine JL_nil ?_
            refine N_then ?_
            refine J_ret ?_
            refine N_then_ret ?_
            refine N_block_ret ?_
            refine N_then_ret ?_
            refine N_round_ret ?_
            refine N_then_ret ?_
            exact N_ret1 rfl (rv_tmp rfl) (fun w hh => ⟨(), rfl, hh.sel [] rfl⟩)
          · refine J_skip ?_
            refine N_then ?_
            refine J_seq ?_
            refine J_region ?_
            refine JL_q (wants_none rfl) rfl (ex_move rfl) ?_
            refine JL_q (wants_none rfl) rfl (ex_move rfl) ?_
            refine JL_q (wants_none rfl) rfl (ex_move rfl) ?_
            refine JL_bnd fun y19 hy20 => ?_
            refine JL_st (wants_none rfl) rfl (st_index 6 Try.underlying42 ti_25 rfl rfl rfl hy20) (fun q21 => ?_)
            refine JL_st (wants_none rfl) rfl (st_load_pt_o 0 (opens_sl _) ti_25 rfl rfl) (fun v22 => ?_)
            refine JL_bnd fun y23 hy24 => ?_
            refine JL_st (wants_none rfl) rfl (st_index 0 Try.underlying25 ti_23 rfl rfl rfl hy24) (fun q25 => ?_)
            refine JL_st (wants_none rfl) rfl (st_load_pt_o 0 (opens_sl _) ti_23 rfl rfl) (fun v26 => ?_)
            refine JL_bnd fun r27 hr28 => ?_
            refine JL_call (wants_none rfl) rfl Try.call21 rfl (Ca_self (fun _ => rfl) fun w hh => c_impl_SuccessorsOf _ w (fun _ hk => hk.elim) _ _ (hh.rd0 6 rfl) _ _ (hh.rd0 0 rfl) _ hr28) (fun x29 => ?_)
            obtain ⟨x29_0, x29_1⟩ := x29
            refine JL_q (wants_none rfl) rfl (ex_move rfl) ?_
            refine JL_q (wants_none rfl) rfl (ex_extract rfl rfl) ?_
            refine JL_q (wants_none rfl) rfl (ex_extract rfl rfl) ?_
            refine JL_q (wants_none rfl) rfl (ex_assign rfl) ?_
            refine JL_q (wants_none rfl) rfl (ex_assign rfl) ?_
            refine JL_nil ?_
            refine N_then ?_
            refine J_seq ?_
            refine J_cut' (S' := Unit) (G' := Unit) (fun _ _ => [(3, x6_0), (4, x6_2), (5, x9_0), (7, .bool s11.1), (8, .int .i64 s11.2)]) (fun _ _ => [.rd x6_0 r4.1, .tkn x6_0 r4.1 ((x6_0 : Value).ownBlock.toList ++ x6_1), .rd x6_2 r4.2, .tkn x6_2 r4.2 ((x6_2 : Value).ownBlock.toList ++ []), .rd x9_0 r7.1, .tkn x9_0 r7.1 ((x9_0 : Value).ownBlock.toList ++ x9_1)]) ?_ (fun s30 g31 => ?_)
            · refine J_seq ?_
              refine J_region ?_
              refine JL_q (wants_none rfl) rfl (ex_move rfl) ?_
              refine JL_q (wants_none rfl) rfl (ex_neq rfl rfl) ?_
              refine JL_q (wants_none rfl) rfl (ex_move rfl) ?_
              refine JL_cond (fun h32 => ?_) (fun h32 => ?_)
              · refine JL_passed rfl rfl rfl h32 ?_
                refine JL_passed rfl rfl rfl h32 ?_
                refine JL_passed rfl rfl rfl h32 ?_
                refine JL_passed rfl rfl rfl h32 ?_
                refine JL_passed rfl rfl rfl h32 ?_
                refine JL_passed rfl rfl rfl h32 ?_
                refine JL_passed rfl rfl rfl h32 ?_
                refine JL_passed rfl rfl rfl h32 ?_
                refine JL_passed rfl rfl rfl h32 ?_
                refine JL_q (wants_none rfl) rfl (ex_pick_true rfl h32 rfl) ?_
                refine JL_q (wants_none rfl) rfl (ex_move rfl) ?_
                refine JL_passed rfl rfl rfl rfl ?_
                refine JL_passed rfl rfl rfl rfl ?_
                refine JL_passed rfl rfl rfl rfl ?_
                refine JL_passed rfl rfl rfl rfl ?_
                refine JL_passed rfl rfl rfl rfl ?_
                refine JL_passed rfl rfl rfl rfl ?_
                refine JL_passed rfl rfl rfl rfl ?_
                refine JL_passed rfl rfl rfl rfl ?_
                refine JL_passed rfl rfl rfl rfl ?_
                refine JL_q (wants_none rfl) rfl (ex_pick_true rfl rfl rfl) ?_
                refine JL_nil ?_
                refine N_then ?_
                refine J_if_true rfl rfl ?_
                refine J_seq ?_
                refine J_region ?_
                refine JL_q (wants_none rfl) rfl (ex_assign rfl) ?_
                refine JL_nil ?_
                refine N_then ?_
                refine J_ret ?_
                refine N_mid_ret ?_
                refine N_then_ret ?_
                refine N_block_ret ?_
                refine N_then_ret ?_
                refine N_round_ret ?_
                refine N_then_ret ?_
                exact N_ret1 rfl (rv_tmp rfl) (fun w hh => ⟨(), rfl, hh.sel [] rfl⟩)
              · refine JL_q (wants_some rfl rfl rfl h32) rfl (ex_move rfl) ?_
                refine JL_q (wants_some rfl rfl rfl h32) rfl (ex_move rfl) ?_
                refine JL_q (wants_some rfl rfl rfl h32) rfl (ex_move rfl) ?_
                refine JL_bnd fun y33 hy34 => ?_
                refine JL_st (wants_some rfl rfl rfl h32) rfl (st_index 11 Try.underlying42 ti_25 rfl rfl rfl hy34) (fun q35 => ?_)
                refine JL_st (wants_some rfl rfl rfl h32) rfl (st_load_pt_o 0 (opens_sl _) ti_25 rfl rfl) (fun v36 => ?_)
                refine JL_bnd fun y37 hy38 => ?_
                refine JL_st (wants_some rfl rfl rfl h32) rfl (st_index 0 Try.underlying25 ti_23 rfl rfl rfl hy38) (fun q39 => ?_)
                refine JL_st (wants_some rfl rfl rfl h32) rfl (st_load_pt_o 0 (opens_sl _) ti_23 rfl rfl) (fun v40 => ?_)
                refine JL_bnd fun r41 hr42 => ?_
                refine JL_call (wants_some rfl rfl rfl h32) rfl Try.call22 rfl (Ca_of0 fun w hh => c_laws_b10Row _ w (fun _ hk => hk.elim) _ _ (hh.od0 4 rfl) _ _ (hh.rd0 0 rfl) _ hr42) (fun _ => ?_)
                refine JL_q (wants_some rfl rfl rfl h32) rfl (ex_not rfl) ?_
                refine JL_q (wants_none rfl) rfl (ex_pick_false rfl h32 rfl) ?_
                refine JL_q (wants_none rfl) rfl (ex_move rfl) ?_
                refine JL_cond (fun h43 => ?_) (fun h43 => ?_)
                · refine JL_passed rfl rfl rfl h43 ?_
                  refine JL_passed rfl rfl rfl h43 ?_
                  refine JL_passed rfl rfl rfl h43 ?_
                  refine JL_passed rfl rfl rfl h43 ?_
                  refine JL_passed rfl rfl rfl h43 ?_
                  refine JL_passed rfl rfl rfl h43 ?_
                  refine JL_passed rfl rfl rfl h43 ?_
                  refine JL_passed rfl rfl rfl h43 ?_
                  refine JL_passed rfl rfl rfl h43 ?_
                  refine JL_q (wants_none rfl) rfl (ex_pick_true rfl h43 rfl) ?_
                  refine JL_nil ?_
                  refine N_then ?_
                  refine J_if_true rfl rfl ?_
                  refine J_seq ?_
                  refine J_region ?_
                  refine JL_q (wants_none rfl) rfl (ex_assign rfl) ?_
                  refine JL_nil ?_
                  refine N_then ?_
                  refine J_ret ?_
                  refine N_mid_ret ?_
                  refine N_then_ret ?_
                  refine N_block_ret ?_
                  refine N_then_ret ?_
                  refine N_round_ret ?_
                  refine N_then_ret ?_
                  exact N_ret1 rfl (rv_tmp rfl) (fun w hh => ⟨(), rfl, hh.sel [] rfl⟩)
                · refine JL_q (wants_some rfl rfl rfl h43) rfl (ex_move rfl) ?_
                  refine JL_q (wants_some rfl rfl rfl h43) rfl (ex_move rfl) ?_
                  refine JL_q (wants_some rfl rfl rfl h43) rfl (ex_move rfl) ?_
                  refine JL_bnd fun y44 hy45 => ?_
                  refine JL_st (wants_some rfl rfl rfl h43) rfl (st_index 15 Try.underlying42 ti_25 rfl rfl rfl hy45) (fun q46 => ?_)
                  refine JL_st (wants_some rfl rfl rfl h43) rfl (st_load_pt_o 0 (opens_sl _) ti_25 rfl rfl) (fun v47 => ?_)
                  refine JL_bnd fun y48 hy49 => ?_
                  refine JL_st (wants_some rfl rfl rfl h43) rfl (st_index 0 Try.underlying25 ti_23 rfl rfl rfl hy49) (fun q50 => ?_)
                  refine JL_st (wants_some rfl rfl rfl h43) rfl (st_load_pt_o 0 (opens_sl _) ti_23 rfl rfl) (fun v51 => ?_)
                  refine JL_bnd fun r52 hr53 => ?_
                  refine JL_call (wants_some rfl rfl rfl h43) rfl Try.call22 rfl (Ca_of0 fun w hh => c_laws_b10Row _ w (fun _ hk => hk.elim) _ _ (hh.od0 8 rfl) _ _ (hh.rd0 0 rfl) _ hr53) (fun _ => ?_)
                  refine JL_q (wants_some rfl rfl rfl h43) rfl (ex_not rfl) ?_
                  refine JL_q (wants_none rfl) rfl (ex_pick_false rfl h43 rfl) ?_
                  refine JL_nil ?_
                  refine N_then ?_
                  refine J_if rfl (fun h54 => ?_) (fun h54 => ?_)
                  · refine J_seq ?_
                    refine J_region ?_
                    refine JL_q (wants_none rfl) rfl (ex_assign rfl) ?_
                    refine JL_nil ?_
                    refine N_then ?_
                    refine J_ret ?_
                    refine N_mid_ret ?_
                    refine N_then_ret ?_
                    refine N_block_ret ?_
                    refine N_then_ret ?_
                    refine N_round_ret ?_
                    refine N_then_ret ?_
                    exact N_ret1 rfl (rv_tmp rfl) (fun w hh => ⟨(), rfl, hh.sel [] rfl⟩)
                  · refine J_skip ?_
                    exact N_meet' () ⟨rfl, rfl, rfl, rfl, rfl, trivial⟩ [15, 16, 17, 18, 19, 20] rfl rfl
            · refine N_then ?_
              refine J_seq ?_
              refine J_draw [] (by kernel_rfl) ?_
              refine JP_take (i := 0) [0, 1, 2, 3, 4, 5] [] rfl (by kernel_rfl) (by kernel_rfl) (by kernel_rfl) rfl rfl (wants_none rfl) rfl (ex_move rfl) ?_
              refine JP_take (i := 1) [0, 1, 2, 3, 4, 5] [] rfl (by kernel_rfl) (by kernel_rfl) (by kernel_rfl) rfl rfl (wants_none rfl) rfl (ex_move rfl) ?_
              refine JP_take (i := 2) [0, 1, 2, 3, 4, 5] [] rfl (by kernel_rfl) (by kernel_rfl) (by kernel_rfl) rfl rfl (wants_none rfl) rfl (ex_move rfl) ?_
              refine JP_bnd fun y55 hy56 => ?_
              refine JP_sq (i := 3) [] rfl (by kernel_rfl) (by kernel_rfl) (by kernel_rfl) rfl (wants_none rfl) rfl (sq_index 4 Try.underlying42 ti_25 rfl rfl rfl hy56) (fun q57 => ?_)
              refine JP_sq (i := 4) [] rfl (by kernel_rfl) (by kernel_rfl) (by kernel_rfl) rfl (wants_none rfl) rfl (sq_load_pt_o 0 (opens_sl _) ti_25 rfl rfl) (fun v58 => ?_)
              refine JP_bnd fun y59 hy60 => ?_
              refine JP_sq (i := 5) [] rfl (by kernel_rfl) (by kernel_rfl) (by kernel_rfl) rfl (wants_none rfl) rfl (sq_index 0 Try.underlying25 ti_23 rfl rfl rfl hy60) (fun q61 => ?_)
              refine JP_sq (i := 6) [] rfl (by kernel_rfl) (by kernel_rfl) (by kernel_rfl) rfl (wants_none rfl) rfl (sq_load_pt_o 0 (opens_sl _) ti_23 rfl rfl) (fun v62 => ?_)
              refine JP_take (i := 7) [0, 1, 2, 3, 4, 5, 6, 7, 8, 9] [] rfl (by kernel_rfl) (by kernel_rfl) (by kernel_rfl) rfl rfl (wants_none rfl) rfl (ex_move rfl) ?_
              refine JP_take (i := 8) [0, 1, 2, 3, 4, 5, 6, 7, 8, 9] [] rfl (by kernel_rfl) (by kernel_rfl) (by kernel_rfl) rfl rfl (wants_none rfl) rfl (ex_move rfl) ?_
              refine JP_bnd fun y63 hy64 => ?_
              refine JP_sq (i := 9) [] rfl (by kernel_rfl) (by kernel_rfl) (by kernel_rfl) rfl (wants_none rfl) rfl (sq_index 8 Try.underlying42 ti_25 rfl rfl rfl hy64) (fun q65 => ?_)
              refine JP_sq (i := 10) [] rfl (by kernel_rfl) (by kernel_rfl) (by kernel_rfl) rfl (wants_none rfl) rfl (sq_load_pt_o 0 (opens_sl _) ti_25 rfl rfl) (fun v66 => ?_)
              refine JP_bnd fun y67 hy68 => ?_
              refine JP_sq (i := 11) [] rfl (by kernel_rfl) (by kernel_rfl) (by kernel_rfl) rfl (wants_none rfl) rfl (sq_index 0 Try.underlying25 ti_23 rfl rfl rfl hy68) (fun q69 => ?_)
              refine JP_sq (i := 12) [] rfl (by kernel_rfl) (by kernel_rfl) (by kernel_rfl) rfl (wants_none rfl) rfl (sq_load_pt_o 0 (opens_sl _) ti_23 rfl rfl) (fun v70 => ?_)
              refine JP_go [0, 1, 2, 3, 4, 5, 6, 7, 8, 9, 10, 11, 12, 13] [] rfl rfl rfl (fun w72 h1_73 hp71 => ?_)
              refine JD_bnd fun r74 hr75 => ?_
              refine JD_one (i := 13) (by kernel_rfl) ?_
              refine JO_call rfl (wants_none rfl) rfl Try.call23 rfl (Ca_of0 fun w hh => c_impl_AreJoinable _ w (fun _ hk => hk.elim) _ _ (hh.rd0 8 rfl) _ _ (hh.rd0 4 rfl) _ _ (hh.rd0 0 rfl) _ _ hr75) (fun _ => ?_)
              refine JD_take (i := 14) hp71 rfl (by kernel_rfl) (by kernel_rfl) (by kernel_rfl) (wants_none rfl) rfl (ex_move rfl) ?_
              refine JD_take (i := 15) hp71 rfl (by kernel_rfl) (by kernel_rfl) (by kernel_rfl) (wants_none rfl) rfl (ex_extract rfl rfl) ?_
              refine JD_take (i := 16) hp71 rfl (by kernel_rfl) (by kernel_rfl) (by kernel_rfl) (wants_none rfl) rfl (ex_extract rfl rfl) ?_
              refine JD_take (i := 17) hp71 rfl (by kernel_rfl) (by kernel_rfl) (by kernel_rfl) (wants_none rfl) rfl (ex_assign rfl) ?_
              refine JD_take (i := 18) hp71 rfl (by kernel_rfl) (by kernel_rfl) (by kernel_rfl) (wants_none rfl) rfl (ex_assign rfl) ?_
              refine JD_done (by kernel_rfl) ?_
              refine N_then ?_
              refine J_region ?_
              refine JL_q (wants_none rfl) rfl (ex_move rfl) ?_
              refine JL_q (wants_none rfl) rfl (ex_move rfl) ?_
              refine JL_cond (fun h76 => ?_) (fun h76 => ?_)
              · refine JL_q (wants_some rfl rfl rfl h76) rfl (ex_move rfl) ?_
                refine JL_q (wants_some rfl rfl rfl h76) rfl (ex_eql rfl rfl) ?_
                refine JL_q (wants_none rfl) rfl (ex_pick_true rfl h76 rfl) ?_
                refine JL_q (wants_none rfl) rfl (ex_move rfl) ?_
                refine JL_cond (fun h77 => ?_) (fun h77 => ?_)
                · refine JL_q (wants_some rfl rfl rfl h77) rfl (ex_move rfl) ?_
                  refine JL_q (wants_none rfl) rfl (ex_pick_true rfl h77 rfl) ?_
                  refine JL_q (wants_none rfl) rfl (ex_assign rfl) ?_
                  refine JL_nil ?_
                  refine N_block ?_
                  refine N_then ?_
                  refine J_region ?_
                  refine JL_q (wants_none rfl) rfl (ex_move rfl) ?_
                  refine JL_q (wants_none rfl) rfl (ex_add rfl rfl) ?_
                  refine JL_q (wants_none rfl) rfl (ex_assign rfl) ?_
                  refine JL_nil ?_
                  exact N_next' () ⟨rfl, rfl, rfl, rfl, rfl, trivial⟩ [8, 9, 10, 11, 12, 13] rfl rfl
                · refine JL_passed rfl rfl rfl h77 ?_
                  refine JL_q (wants_none rfl) rfl (ex_pick_false rfl h77 rfl) ?_
                  refine JL_q (wants_none rfl) rfl (ex_assign rfl) ?_
                  refine JL_nil ?_
                  refine N_block ?_
                  refine N_then ?_
                  refine J_region ?_
                  refine JL_q (wants_none rfl) rfl (ex_move rfl) ?_
                  refine JL_q (wants_none rfl) rfl (ex_add rfl rfl) ?_
                  refine JL_q (wants_none rfl) rfl (ex_assign rfl) ?_
                  refine JL_nil ?_
                  exact N_next' () ⟨rfl, rfl, rfl, rfl, rfl, trivial⟩ [8, 9, 10, 11, 12, 13] rfl rfl
              · refine JL_passed rfl rfl rfl h76 ?_
                refine JL_passed rfl rfl rfl h76 ?_
                refine JL_q (wants_none rfl) rfl (ex_pick_false rfl h76 rfl) ?_
                refine JL_q (wants_none rfl) rfl (ex_move rfl) ?_
                refine JL_passed rfl rfl rfl rfl ?_
                refine JL_q (wants_none rfl) rfl (ex_pick_false rfl rfl rfl) ?_
                refine JL_q (wants_none rfl) rfl (ex_assign rfl) ?_
                refine JL_nil ?_
                refine N_block ?_
                refine N_then ?_
                refine J_region ?_
                refine JL_q (wants_none rfl) rfl (ex_move rfl) ?_
                refine JL_q (wants_none rfl) rfl (ex_add rfl rfl) ?_
                refine JL_q (wants_none rfl) rfl (ex_assign rfl) ?_
                refine JL_nil ?_
                exact N_next' () ⟨rfl, rfl, rfl, rfl, rfl, trivial⟩ [8, 9, 10, 11, 12, 13] rfl rfl
        · refine J_exit ?_
          refine N_then_exit ?_
          exact N_break' () ⟨rfl, rfl, rfl, rfl, rfl, trivial⟩ [0, 1, 2, 3, 4, 5] rfl rfl
      · refine N_then ?_
        refine J_seq ?_
        refine J_region ?_
        refine JL_q (wants_none rfl) rfl (ex_move rfl) ?_
        refine JL_q (wants_none rfl) rfl (ex_move rfl) ?_
        refine JL_bnd fun r78 hr79 => ?_
        refine JL_call (wants_none rfl) rfl Try.call10 rfl (Ca_self (fun _ => rfl) fun w hh => c_impl_NormalFormsOf _ w (fun _ hk => hk.elim) _ _ (hh.rd0 0 rfl) _ _ (hh.rd0 2 rfl) _ _ hr79) (fun x80 => ?_)
        obtain ⟨x80_0, x80_1⟩ := x80
        refine JL_q (wants_none rfl) rfl (ex_move rfl) ?_
        refine JL_q (wants_none rfl) rfl (ex_extract rfl rfl) ?_
        refine JL_q (wants_none rfl) rfl (ex_extract rfl rfl) ?_
        refine JL_q (wants_none rfl) rfl (ex_extract rfl rfl) ?_
        refine JL_q (wants_none rfl) rfl (ex_assign rfl) ?_
        refine JL_q (wants_none rfl) rfl (ex_assign rfl) ?_
        refine JL_q (wants_none rfl) rfl (ex_assign rfl) ?_
        refine JL_nil ?_
        refine N_then ?_
        refine J_seq ?_
        refine J_seq ?_
        refine J_region ?_
        refine JL_q (wants_none rfl) rfl (ex_move rfl) ?_
        refine JL_q (wants_none rfl) rfl (ex_neq rfl rfl) ?_
        refine JL_nil ?_
        refine N_then ?_
        refine J_if rfl (fun h81 => ?_) (fun h81 => ?_)
        · refine J_seq ?_
          refine J_region ?_
          refine JL_q (wants_none rfl) rfl (ex_assign rfl) ?_
          refine JL_nil ?_
          refine N_then ?_
          refine J_ret ?_
          refine N_then_ret ?_
          exact N_ret1 rfl (rv_tmp rfl) (fun w hh => ⟨(), rfl, hh.sel [] rfl⟩)
        · refine J_skip ?_
          refine N_then ?_
          refine J_seq ?_
          refine J_seq ?_
          refine J_region ?_
          refine JL_q (wants_none rfl) rfl (ex_move rfl) ?_
          refine JL_q (wants_none rfl) rfl (ex_not rfl) ?_
          refine JL_nil ?_
          refine N_then ?_
          refine J_if rfl (fun h82 => ?_) (fun h82 => ?_)
          · refine J_seq ?_
            refine J_region ?_
            refine JL_q (wants_none rfl) rfl (ex_move rfl) ?_
            refine JL_q (wants_none rfl) rfl (ex_move rfl) ?_
            refine JL_bnd fun r83 hr84 => ?_
            refine JL_call (wants_none rfl) rfl Try.call7 rfl (Ca_self (fun _ => rfl) fun w hh => c_spec_NormalFormsOf _ w (fun _ hk => hk.elim) _ _ (hh.rd0 1 rfl) _ _ (hh.rd0 3 rfl) _ _ hr84) (fun x85 => ?_)
            obtain ⟨x85_0, x85_1⟩ := x85
            refine JL_q (wants_none rfl) rfl (ex_move rfl) ?_
            refine JL_q (wants_none rfl) rfl (ex_extract rfl rfl) ?_
            refine JL_q (wants_none rfl) rfl (ex_extract rfl rfl) ?_
            refine JL_q (wants_none rfl) rfl (ex_extract rfl rfl) ?_
            refine JL_q (wants_none rfl) rfl (ex_assign rfl) ?_
            refine JL_q (wants_none rfl) rfl (ex_assign rfl) ?_
            refine JL_q (wants_none rfl) rfl (ex_assign rfl) ?_
            refine JL_nil ?_
            refine N_then ?_
            refine J_seq ?_
            refine J_region ?_
            refine JL_q (wants_none rfl) rfl (ex_move rfl) ?_
            refine JL_q (wants_none rfl) rfl (ex_not rfl) ?_
            refine JL_q (wants_none rfl) rfl (ex_assign rfl) ?_
            refine JL_nil ?_
            refine N_then ?_
            refine J_ret ?_
            refine N_then_ret ?_
            exact N_ret1 rfl (rv_tmp rfl) (fun w hh => ⟨(), rfl, hh.sel [] rfl⟩)
          · refine J_skip ?_
            refine N_then ?_
            refine J_seq ?_
            refine J_region ?_
            refine JL_q (wants_none rfl) rfl (ex_move rfl) ?_
            refine JL_q (wants_none rfl) rfl (ex_od 0 rfl (ex_len_ow 0 Try.underlying25 rfl rfl)) ?_
            refine JL_q (wants_none rfl) rfl (ex_gtr rfl rfl) ?_
            refine JL_q (wants_none rfl) rfl (ex_move rfl) ?_
            refine JL_cond (fun h86 => ?_) (fun h86 => ?_)
            · refine JL_q (wants_some rfl rfl rfl h86) rfl (ex_move rfl) ?_
              refine JL_q (wants_some rfl rfl rfl h86) rfl (ex_not rfl) ?_
              refine JL_q (wants_some rfl rfl rfl h86) rfl (ex_move rfl) ?_
              refine JL_cond (fun h87 => ?_) (fun h87 => ?_)
              · refine JL_passed rfl rfl rfl h87 ?_
                refine JL_passed rfl rfl rfl h87 ?_
                refine JL_passed rfl rfl rfl h87 ?_
                refine JL_q (wants_some rfl rfl rfl h86) rfl (ex_pick_true rfl h87 rfl) ?_
                refine JL_q (wants_none rfl) rfl (ex_pick_true rfl h86 rfl) ?_
                refine JL_q (wants_none rfl) rfl (ex_assign rfl) ?_
                refine JL_nil ?_
                refine N_then ?_
                refine J_ret ?_
                exact N_ret1 rfl (rv_tmp rfl) (fun w hh => ⟨(), rfl, hh.sel [] rfl⟩)
              · refine JL_q (wants_some rfl rfl rfl h87) rfl (ex_move rfl) ?_
                refine JL_q (wants_some rfl rfl rfl h87) rfl (ex_od 0 rfl (ex_len_ow 0 Try.underlying25 rfl rfl)) ?_
                refine JL_q (wants_some rfl rfl rfl h87) rfl (ex_eql rfl rfl) ?_
                refine JL_q (wants_some rfl rfl rfl h86) rfl (ex_pick_false rfl h87 rfl) ?_
                refine JL_q (wants_none rfl) rfl (ex_pick_true rfl h86 rfl) ?_
                refine JL_q (wants_none rfl) rfl (ex_assign rfl) ?_
                refine JL_nil ?_
                refine N_then ?_
                refine J_ret ?_
                exact N_ret1 rfl (rv_tmp rfl) (fun w hh => ⟨(), rfl, hh.sel [] rfl⟩)
            · refine JL_passed rfl rfl rfl h86 ?_
              refine JL_passed rfl rfl rfl h86 ?_
              refine JL_passed rfl rfl rfl h86 ?_
              refine JL_passed_undef rfl rfl rfl ?_
              refine JL_passed_undef rfl rfl rfl ?_
              refine JL_passed_undef rfl rfl rfl ?_
              refine JL_passed rfl rfl rfl h86 ?_
              refine JL_q (wants_none rfl) rfl (ex_pick_false rfl h86 rfl) ?_
              refine JL_q (wants_none rfl) rfl (ex_assign rfl) ?_
              refine JL_nil ?_
              refine N_then ?_
              refine J_ret ?_
              exact N_ret1 rfl (rv_tmp rfl) (fun w hh => ⟨(), rfl, hh.sel [] rfl⟩)

end Go.Proofs.Ytneglngdbcefgaa
