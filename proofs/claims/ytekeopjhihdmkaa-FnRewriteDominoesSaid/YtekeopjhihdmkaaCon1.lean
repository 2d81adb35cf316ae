/-
  Each function of the program computes what its plain function says: printed by program. No condition.
-/
import Derived.Test.YtekeopjhihdmkaaFn
import Derived.Test.YtekeopjhihdmkaaInf
namespace Go.Proofs.Ytekeopjhihdmkaa
open Go Go.Tc Go.Fn
set_option linter.unusedVariables false

set_option maxHeartbeats 40000000 in
theorem c_laws_b10Long (A : Nat → Prop) (w : World) (hA : ∀ k, A k → k < w.heap.size) (v0_ : Value) (p0 : (List (Ik .u8))) (hp0 : Rd A w v0_ p0) (r : Bool) (hr : F_laws_b10Long p0 = some r) :
    Con Try.prog 4 [v0_] A w (fun x_ : Unit => .bool r) (fun x_ => []) := by
  refine Con_of (v := fun (r : Bool) (x_ : Unit) => .bool r) (fs := fun r x_ => []) Try.func4 rfl Try.ntmps4 rfl ((SH.start hA).start_rd rfl hp0) rfl ?_ hr
  unfold F_laws_b10Long
  refine J_seq ?_
  refine J_region ?_
  refine JL_q (wants_none rfl) rfl (ex_assign rfl) ?_
  refine JL_nil ?_
  refine N_then ?_
  refine J_seq ?_
  refine J_region ?_
  refine JL_q (wants_none rfl) rfl (ex_move rfl) ?_
  refine JL_q (wants_none rfl) rfl (ex_len_rd 0 Try.underlying22 rfl rfl) ?_
  refine JL_q (wants_none rfl) rfl (ex_gtr rfl rfl) ?_
  refine JL_q (wants_none rfl) rfl (ex_assign rfl) ?_
  refine JL_nil ?_
  refine N_then ?_
  refine J_ret ?_
  exact N_ret1 rfl (rv_tmp rfl) (fun w hh => ⟨(), rfl, hh.sel [] rfl⟩)

set_option maxHeartbeats 40000000 in
theorem c_spec_l00Src_next (w : World) (b0_ : Nat) (p0 : Gl00Src) (v0_0 : Value) (B_ : List Nat) (hB_ : Ctx.owns [.bx b0_ 69 [v0_0, .int .i64 p0.at_, .int .u64 p0.seed.val]] = B_) (hn_ : PHanded w [.bx b0_ 69 [v0_0, .int .i64 p0.at_, .int .u64 p0.seed.val]]) (hp0_0 : Rd (fun k => k ∈ B_) w v0_0 p0.code) (r : (Int) × (Int × (Ik .u64))) (hr : F_spec_l00Src_next p0 = some r) :
    PtrCon Try.prog 42 [.pointer (some ⟨b0_, 0, none⟩)] w B_ (fun x_ : Unit => .int .i64 r.1) (fun x_ => [.bx b0_ 69 [v0_0, .int .i64 r.2.1, .int .u64 r.2.2.val]]) := by
  refine PtrCon_of (v := fun (r : (Int) × (Int × (Ik .u64))) (x_ : Unit) => .int .i64 r.1) (fs := fun r x_ => [.bx b0_ 69 [v0_0, .int .i64 r.2.1, .int .u64 r.2.2.val]]) Try.func42 rfl Try.ntmps42 rfl (show SH nowhere (bare w) w [.rd v0_0 p0.code, .bx b0_ 69 [v0_0, .int .i64 p0.at_, .int .u64 p0.seed.val], .tkn (.int .i64 0) (0 : Int) (restL w B_), rest w B_] from ((SH.begin hB_ hn_).cons_apart hB_ hp0_0)) rfl ?_ hr
  unfold F_spec_l00Src_next
  refine J_seq ?_
  refine J_region ?_
  refine JL_q (wants_none rfl) rfl (ex_assign rfl) ?_
  refine JL_nil ?_
  refine N_then ?_
  refine J_seq ?_
  refine J_region ?_
  refine JL_q (wants_none rfl) rfl (ex_assign rfl) ?_
  refine JL_nil ?_
  refine N_then ?_
  refine J_seq ?_
  refine J_cut' (S' := Int) (G' := Unit) (fun s1 _ => [(0, .pointer (some ⟨b0_, 0, none⟩)), (3, .int .i64 s1)]) (fun s1 _ => [rest w B_, .rd v0_0 p0.code, .bx b0_ 69 [v0_0, .int .i64 p0.at_, .int .u64 p0.seed.val], .tkn (.int .i64 0) (0 : Int) (restL w B_)]) ?_ (fun s1 g2 => ?_)
  · refine J_seq ?_
    refine J_draw [] (by kernel_rfl) ?_
    refine JP_take (i := 0) [0, 1, 2, 3] [] rfl (by kernel_rfl) (by kernel_rfl) (by kernel_rfl) rfl rfl (wants_none rfl) rfl (ex_move rfl) ?_
    refine JP_take (i := 1) [0, 1, 2, 3] [] rfl (by kernel_rfl) (by kernel_rfl) (by kernel_rfl) rfl rfl (wants_none rfl) rfl (ex_nilCheck rfl) ?_
    refine JP_take (i := 2) [0, 1, 2, 3] [] rfl (by kernel_rfl) (by kernel_rfl) (by kernel_rfl) rfl rfl (wants_none rfl) rfl (ex_fieldAddr fi_69_1 rfl rfl) ?_
    refine JP_take (i := 3) [0, 1, 2, 3] [] rfl (by kernel_rfl) (by kernel_rfl) (by kernel_rfl) rfl rfl (wants_none rfl) rfl (ex_load_bx 1 ti_3 rfl rfl rfl) ?_
    refine JP_take (i := 4) [0, 1, 2, 3] [] rfl (by kernel_rfl) (by kernel_rfl) (by kernel_rfl) rfl rfl (wants_none rfl) rfl (ex_move rfl) ?_
    refine JP_take (i := 5) [0, 1, 2, 3] [] rfl (by kernel_rfl) (by kernel_rfl) (by kernel_rfl) rfl rfl (wants_none rfl) rfl (ex_nilCheck rfl) ?_
    refine JP_take (i := 6) [0, 1, 2, 3] [] rfl (by kernel_rfl) (by kernel_rfl) (by kernel_rfl) rfl rfl (wants_none rfl) rfl (ex_fieldAddr fi_69_0 rfl rfl) ?_
    refine JP_take (i := 7) [0, 1, 2, 3] [] rfl (by kernel_rfl) (by kernel_rfl) (by kernel_rfl) rfl rfl (wants_none rfl) rfl (ex_load_bx 1 ti_22 rfl rfl rfl) ?_
    refine JP_take (i := 8) [0, 1, 2, 3] [] rfl (by kernel_rfl) (by kernel_rfl) (by kernel_rfl) rfl rfl (wants_none rfl) rfl (ex_len_rd 0 Try.underlying22 rfl rfl) ?_
    refine JP_take (i := 9) [0, 1, 2, 3] [] rfl (by kernel_rfl) (by kernel_rfl) (by kernel_rfl) rfl rfl (wants_none rfl) rfl (ex_lss rfl rfl) ?_
    refine JP_go [] [] rfl rfl rfl (fun _ _ _ => ?_)
    refine JD_done (by kernel_rfl) ?_
    refine N_then ?_
    refine J_if rfl (fun h3 => ?_) (fun h3 => ?_)
    · refine J_draw [] (by kernel_rfl) ?_
      refine JP_take (i := 0) [0, 1, 2, 3] [] rfl (by kernel_rfl) (by kernel_rfl) (by kernel_rfl) rfl rfl (wants_none rfl) rfl (ex_move rfl) ?_
      refine JP_take (i := 1) [0, 1, 2, 3] [] rfl (by kernel_rfl) (by kernel_rfl) (by kernel_rfl) rfl rfl (wants_none rfl) rfl (ex_nilCheck rfl) ?_
      refine JP_take (i := 2) [0, 1, 2, 3] [] rfl (by kernel_rfl) (by kernel_rfl) (by kernel_rfl) rfl rfl (wants_none rfl) rfl (ex_fieldAddr fi_69_0 rfl rfl) ?_
      refine JP_take (i := 3) [0, 1, 2, 3] [] rfl (by kernel_rfl) (by kernel_rfl) (by kernel_rfl) rfl rfl (wants_none rfl) rfl (ex_load_bx 1 ti_22 rfl rfl rfl) ?_
      refine JP_take (i := 4) [0, 1, 2, 3] [] rfl (by kernel_rfl) (by kernel_rfl) (by kernel_rfl) rfl rfl (wants_none rfl) rfl (ex_move rfl) ?_
      refine JP_take (i := 5) [0, 1, 2, 3] [] rfl (by kernel_rfl) (by kernel_rfl) (by kernel_rfl) rfl rfl (wants_none rfl) rfl (ex_nilCheck rfl) ?_
      refine JP_take (i := 6) [0, 1, 2, 3] [] rfl (by kernel_rfl) (by kernel_rfl) (by kernel_rfl) rfl rfl (wants_none rfl) rfl (ex_fieldAddr fi_69_1 rfl rfl) ?_
      refine JP_take (i := 7) [0, 1, 2, 3] [] rfl (by kernel_rfl) (by kernel_rfl) (by kernel_rfl) rfl rfl (wants_none rfl) rfl (ex_load_bx 1 ti_3 rfl rfl rfl) ?_
      refine JP_bnd fun y4 hy5 => ?_
      refine JP_sq (i := 8) [] rfl (by kernel_rfl) (by kernel_rfl) (by kernel_rfl) rfl (wants_none rfl) rfl (sq_index 0 Try.underlying22 ti_5 rfl rfl rfl hy5) (fun q6 => ?_)
      refine JP_sq (i := 9) [] rfl (by kernel_rfl) (by kernel_rfl) (by kernel_rfl) rfl (wants_none rfl) rfl (sq_load_pt_o 0 (opens_ik _) ti_5 rfl rfl) (fun _ => ?_)
      refine JP_take (i := 10) [0, 1, 2, 3, 4] [] rfl (by kernel_rfl) (by kernel_rfl) (by kernel_rfl) rfl rfl (wants_none rfl) rfl (ex_conv_i64 Try.underlying5 Try.underlying3 rfl) ?_
      refine JP_take (i := 11) [0, 1, 2, 3, 4] [] rfl (by kernel_rfl) (by kernel_rfl) (by kernel_rfl) rfl rfl (wants_none rfl) rfl (ex_assign rfl) ?_
      refine JP_go [] [] rfl rfl rfl (fun _ _ _ => ?_)
      refine JD_done (by kernel_rfl) ?_
      exact N_meet' () ⟨rfl, rfl, trivial⟩ [4, 1, 2, 3] rfl rfl
    · refine J_skip ?_
      exact N_meet' () ⟨rfl, rfl, trivial⟩ [3, 0, 1, 2] rfl rfl
  · refine N_then ?_
    refine J_seq ?_
    refine J_region ?_
    refine JL_q (wants_none rfl) rfl (ex_move rfl) ?_
    refine JL_q (wants_none rfl) rfl (ex_nilCheck rfl) ?_
    refine JL_q (wants_none rfl) rfl (ex_fieldAddr fi_69_1 rfl rfl) ?_
    refine JL_q (wants_none rfl) rfl (ex_load_bx 2 ti_3 rfl rfl rfl) ?_
    refine JL_q (wants_none rfl) rfl (ex_add rfl rfl) ?_
    refine JL_q (wants_none rfl) rfl (ex_nilCheck rfl) ?_
    refine JL_q (wants_none rfl) rfl (ex_fieldAddr fi_69_1 rfl rfl) ?_
    refine JL_sk (wants_none rfl) (sk_store_bx' 2 ti_3 rfl rfl (fun w hh => cv_int) rfl rfl rfl rfl) ?_
    refine JL_nil ?_
    refine N_then ?_
    refine J_seq ?_
    refine J_region ?_
    refine JL_q (wants_none rfl) rfl (ex_move rfl) ?_
    refine JL_q (wants_none rfl) rfl (ex_move rfl) ?_
    refine JL_q (wants_none rfl) rfl (ex_nilCheck rfl) ?_
    refine JL_q (wants_none rfl) rfl (ex_fieldAddr fi_69_2 rfl rfl) ?_
    refine JL_q (wants_none rfl) rfl (ex_load_bx 2 ti_67 rfl rfl rfl) ?_
    refine JL_q (wants_none rfl) rfl (ex_mulk rfl rfl) ?_
    refine JL_q (wants_none rfl) rfl (ex_move rfl) ?_
    refine JL_q (wants_none rfl) rfl (ex_conv_ik Try.underlying3 Try.underlying67 rfl) ?_
    refine JL_q (wants_none rfl) rfl (ex_addk rfl rfl) ?_
    refine JL_q (wants_none rfl) rfl (ex_addk rfl rfl) ?_
    refine JL_q (wants_none rfl) rfl (ex_nilCheck rfl) ?_
    refine JL_q (wants_none rfl) rfl (ex_fieldAddr fi_69_2 rfl rfl) ?_
    refine JL_sk (wants_none rfl) (sk_store_bx' 2 ti_67 rfl rfl (fun w hh => cv_int) rfl rfl rfl rfl) ?_
    refine JL_nil ?_
    refine N_then ?_
    refine J_seq ?_
    refine J_seq ?_
    refine J_draw [] (by kernel_rfl) ?_
    refine JP_take (i := 0) [0, 1, 2, 3] [] rfl (by kernel_rfl) (by kernel_rfl) (by kernel_rfl) rfl rfl (wants_none rfl) rfl (ex_move rfl) ?_
    refine JP_take (i := 1) [0, 1, 2, 3] [] rfl (by kernel_rfl) (by kernel_rfl) (by kernel_rfl) rfl rfl (wants_none rfl) rfl (ex_nilCheck rfl) ?_
    refine JP_take (i := 2) [0, 1, 2, 3] [] rfl (by kernel_rfl) (by kernel_rfl) (by kernel_rfl) rfl rfl (wants_none rfl) rfl (ex_fieldAddr fi_69_1 rfl rfl) ?_
    refine JP_take (i := 3) [0, 1, 2, 3] [] rfl (by kernel_rfl) (by kernel_rfl) (by kernel_rfl) rfl rfl (wants_none rfl) rfl (ex_load_bx 2 ti_3 rfl rfl rfl) ?_
    refine JP_take (i := 4) [0, 1, 2, 3] [] rfl (by kernel_rfl) (by kernel_rfl) (by kernel_rfl) rfl rfl (wants_none rfl) rfl (ex_move rfl) ?_
    refine JP_take (i := 5) [0, 1, 2, 3] [] rfl (by kernel_rfl) (by kernel_rfl) (by kernel_rfl) rfl rfl (wants_none rfl) rfl (ex_nilCheck rfl) ?_
    refine JP_take (i := 6) [0, 1, 2, 3] [] rfl (by kernel_rfl) (by kernel_rfl) (by kernel_rfl) rfl rfl (wants_none rfl) rfl (ex_fieldAddr fi_69_0 rfl rfl) ?_
    refine JP_take (i := 7) [0, 1, 2, 3] [] rfl (by kernel_rfl) (by kernel_rfl) (by kernel_rfl) rfl rfl (wants_none rfl) rfl (ex_load_bx 2 ti_22 rfl rfl rfl) ?_
    refine JP_take (i := 8) [0, 1, 2, 3] [] rfl (by kernel_rfl) (by kernel_rfl) (by kernel_rfl) rfl rfl (wants_none rfl) rfl (ex_len_rd 1 Try.underlying22 rfl rfl) ?_
    refine JP_take (i := 9) [0, 1, 2, 3] [] rfl (by kernel_rfl) (by kernel_rfl) (by kernel_rfl) rfl rfl (wants_none rfl) rfl (ex_leq rfl rfl) ?_
    refine JP_go [] [] rfl rfl rfl (fun _ _ _ => ?_)
    refine JD_done (by kernel_rfl) ?_
    refine N_then ?_
    refine J_if rfl (fun h8 => ?_) (fun h8 => ?_)
    · refine J_seq ?_
      refine J_region ?_
      refine JL_q (wants_none rfl) rfl (ex_move rfl) ?_
      refine JL_q (wants_none rfl) rfl (ex_assign rfl) ?_
      refine JL_nil ?_
      refine N_then ?_
      refine J_ret ?_
      refine N_then_ret ?_
      exact N_ret1 rfl (rv_tmp rfl) (fun w hh => ⟨(), rfl, hh.sel [2, 3, 0] rfl⟩)
    · refine J_skip ?_
      refine N_then ?_
      refine J_seq ?_
      refine J_region ?_
      refine JL_q (wants_none rfl) rfl (ex_move rfl) ?_
      refine JL_q (wants_none rfl) rfl (ex_nilCheck rfl) ?_
      refine JL_q (wants_none rfl) rfl (ex_fieldAddr fi_69_2 rfl rfl) ?_
      refine JL_q (wants_none rfl) rfl (ex_load_bx 2 ti_67 rfl rfl rfl) ?_
      refine JL_q (wants_none rfl) rfl (ex_shrk rfl rfl (by decide)) ?_
      refine JL_q (wants_none rfl) rfl (ex_andk rfl rfl) ?_
      refine JL_q (wants_none rfl) rfl (ex_conv_i64 Try.underlying67 Try.underlying2 rfl) ?_
      refine JL_q (wants_none rfl) rfl (ex_assign rfl) ?_
      refine JL_nil ?_
      refine N_then ?_
      refine J_ret ?_
      exact N_ret1 rfl (rv_tmp rfl) (fun w hh => ⟨(), rfl, hh.sel [2, 3, 0] rfl⟩)

set_option maxHeartbeats 40000000 in
theorem c_spec_l00Src_pick (w : World) (b0_ : Nat) (p0 : Gl00Src) (v0_0 : Value) (B_ : List Nat) (hB_ : Ctx.owns [.bx b0_ 69 [v0_0, .int .i64 p0.at_, .int .u64 p0.seed.val]] = B_) (hn_ : PHanded w [.bx b0_ 69 [v0_0, .int .i64 p0.at_, .int .u64 p0.seed.val]]) (hp0_0 : Rd (fun k => k ∈ B_) w v0_0 p0.code) (p1 : Int) (r : (Int) × (Int × (Ik .u64))) (hr : F_spec_l00Src_pick p0 p1 = some r) :
    PtrCon Try.prog 17 [.pointer (some ⟨b0_, 0, none⟩), .int .i64 p1] w B_ (fun x_ : Unit => .int .i64 r.1) (fun x_ => [.bx b0_ 69 [v0_0, .int .i64 r.2.1, .int .u64 r.2.2.val]]) := by
  refine PtrCon_of (v := fun (r : (Int) × (Int × (Ik .u64))) (x_ : Unit) => .int .i64 r.1) (fs := fun r x_ => [.bx b0_ 69 [v0_0, .int .i64 r.2.1, .int .u64 r.2.2.val]]) Try.func17 rfl Try.ntmps17 rfl (show SH nowhere (bare w) w [.rd v0_0 p0.code, .bx b0_ 69 [v0_0, .int .i64 p0.at_, .int .u64 p0.seed.val], .tkn (.int .i64 0) (0 : Int) (restL w B_), rest w B_] from ((SH.begin hB_ hn_).cons_apart hB_ hp0_0)) rfl ?_ hr
  unfold F_spec_l00Src_pick
  refine J_seq ?_
  refine J_region ?_
  refine JL_q (wants_none rfl) rfl (ex_assign rfl) ?_
  refine JL_nil ?_
  refine N_then ?_
  refine J_seq ?_
  refine J_seq ?_
  refine J_region ?_
  refine JL_q (wants_none rfl) rfl (ex_move rfl) ?_
  refine JL_q (wants_none rfl) rfl (ex_leq rfl rfl) ?_
  refine JL_nil ?_
  refine N_then ?_
  refine J_if rfl (fun h1 => ?_) (fun h1 => ?_)
  · refine J_seq ?_
    refine J_region ?_
    refine JL_q (wants_none rfl) rfl (ex_assign rfl) ?_
    refine JL_nil ?_
    refine N_then ?_
    refine J_ret ?_
    refine N_then_ret ?_
    exact N_ret1 rfl (rv_tmp rfl) (fun w hh => ⟨(), rfl, hh.sel [1, 2, 3] rfl⟩)
  · refine J_skip ?_
    refine N_then ?_
    refine J_seq ?_
    refine J_region ?_
    refine JL_q (wants_none rfl) rfl (ex_move rfl) ?_
    refine JL_bnd fun r2 hr3 => ?_
    refine JL_callT (wants_none rfl) rfl Try.call42 rfl (CaT_of [1] [0, 2, 3] rfl rfl (fun _ => rfl) fun w hh => c_spec_l00Src_next w b0_ p0 v0_0 _ rfl (hh.handed [1] rfl rfl rfl rfl) (hh.apart [1] rfl (hh.rd 0 rfl)) _ hr3) (fun _ => ?_)
    refine JL_q (wants_none rfl) rfl (ex_assign rfl) ?_
    refine JL_nil ?_
    refine N_then ?_
    refine J_seq ?_
    refine J_seq ?_
    refine J_region ?_
    refine JL_q (wants_none rfl) rfl (ex_move rfl) ?_
    refine JL_q (wants_none rfl) rfl (ex_gtr rfl rfl) ?_
    refine JL_nil ?_
    refine N_then ?_
    refine J_if rfl (fun h4 => ?_) (fun h4 => ?_)
    · refine J_region ?_
      refine JL_q (wants_none rfl) rfl (ex_move rfl) ?_
      refine JL_q (wants_none rfl) rfl (ex_mul rfl rfl) ?_
      refine JL_q (wants_none rfl) rfl (ex_move rfl) ?_
      refine JL_bnd fun r5 hr6 => ?_
      refine JL_callT (wants_none rfl) rfl Try.call42 rfl (CaT_of [0] [1, 2, 3] rfl rfl (fun _ => rfl) fun w hh => c_spec_l00Src_next w b0_ (⟨p0.code, r2.2.1, r2.2.2⟩ : Gl00Src) v0_0 _ rfl (hh.handed [0] rfl rfl rfl rfl) (hh.apart [0] rfl (hh.rd 1 rfl)) _ hr6) (fun _ => ?_)
      refine JL_q (wants_none rfl) rfl (ex_add rfl rfl) ?_
      refine JL_q (wants_none rfl) rfl (ex_assign rfl) ?_
      refine JL_nil ?_
      refine N_then ?_
      refine J_seq ?_
      refine J_region ?_
      refine JL_q (wants_none rfl) rfl (ex_move rfl) ?_
      refine JL_q (wants_none rfl) rfl (ex_move rfl) ?_
      refine JL_bnd fun u7 hu8 => ?_
      refine JL_q (wants_none rfl) rfl (ex_rem rfl rfl (nz_ne hu8)) ?_
      refine JL_q (wants_none rfl) rfl (ex_assign rfl) ?_
      refine JL_nil ?_
      refine N_then ?_
      refine J_ret ?_
      exact N_ret1 rfl (rv_tmp rfl) (fun w hh => ⟨(), rfl, hh.sel [0, 2, 3] rfl⟩)
    · refine J_skip ?_
      refine N_then ?_
      refine J_seq ?_
      refine J_region ?_
      refine JL_q (wants_none rfl) rfl (ex_move rfl) ?_
      refine JL_q (wants_none rfl) rfl (ex_move rfl) ?_
      refine JL_bnd fun u9 hu10 => ?_
      refine JL_q (wants_none rfl) rfl (ex_rem rfl rfl (nz_ne hu10)) ?_
      refine JL_q (wants_none rfl) rfl (ex_assign rfl) ?_
      refine JL_nil ?_
      refine N_then ?_
      refine J_ret ?_
      exact N_ret1 rfl (rv_tmp rfl) (fun w hh => ⟨(), rfl, hh.sel [0, 2, 3] rfl⟩)

set_option maxHeartbeats 40000000 in
theorem c_spec_l10DrawWord (w : World) (b0_ : Nat) (p0 : Gl00Src) (v0_0 : Value) (B_ : List Nat) (hB_ : Ctx.owns [.bx b0_ 69 [v0_0, .int .i64 p0.at_, .int .u64 p0.seed.val]] = B_) (hn_ : PHanded w [.bx b0_ 69 [v0_0, .int .i64 p0.at_, .int .u64 p0.seed.val]]) (hp0_0 : Rd (fun k => k ∈ B_) w v0_0 p0.code) (p1 : Int) (p2 : Int) (p3 : Int) (r : ((List Int)) × (Int × (Ik .u64))) (hr : F_spec_l10DrawWord p0 p1 p2 p3 = some r) :
    PtrCon Try.prog 16 [.pointer (some ⟨b0_, 0, none⟩), .int .i64 p1, .int .i64 p2, .int .i64 p3] w B_ (fun x_ : Value => x_) (fun x_ => [.ow 2 x_ r.1, .bx b0_ 69 [v0_0, .int .i64 r.2.1, .int .u64 r.2.2.val]]) := by
  refine PtrCon_of (v := fun (r : ((List Int)) × (Int × (Ik .u64))) (x_ : Value) => x_) (fs := fun r x_ => [.ow 2 x_ r.1, .bx b0_ 69 [v0_0, .int .i64 r.2.1, .int .u64 r.2.2.val]]) Try.func16 rfl Try.ntmps16 rfl (show SH nowhere (bare w) w [.rd v0_0 p0.code, .bx b0_ 69 [v0_0, .int .i64 p0.at_, .int .u64 p0.seed.val], .tkn (.int .i64 0) (0 : Int) (restL w B_), rest w B_] from ((SH.begin hB_ hn_).cons_apart hB_ hp0_0)) rfl ?_ hr
  unfold F_spec_l10DrawWord
  refine J_seq ?_
  refine J_region ?_
  refine JL_q (wants_none rfl) rfl (ex_assign rfl) ?_
  refine JL_nil ?_
  refine N_then ?_
  refine J_seq ?_
  refine J_region ?_
  refine JL_st (wants_none rfl) rfl (st_buildSlice (vs := []) ([] : List Int) Try.underlying25 ti_2 zi_2 rfl rfl rfl (fun w hh => trivial)) (fun b1 => ?_)
  refine JL_q (wants_none rfl) rfl (ex_assign rfl) ?_
  refine JL_nil ?_
  refine N_then ?_
  refine J_seq ?_
  refine J_seq ?_
  refine J_region ?_
  refine JL_q (wants_none rfl) rfl (ex_move rfl) ?_
  refine JL_q (wants_none rfl) rfl (ex_move rfl) ?_
  refine JL_q (wants_none rfl) rfl (ex_move rfl) ?_
  refine JL_q (wants_none rfl) rfl (ex_move rfl) ?_
  refine JL_q (wants_none rfl) rfl (ex_sub rfl rfl) ?_
  refine JL_q (wants_none rfl) rfl (ex_add rfl rfl) ?_
  refine JL_bnd fun r2 hr3 => ?_
  refine JL_callT (wants_none rfl) rfl Try.call17 rfl (CaT_of [2] [0, 1, 3, 4] rfl rfl (fun _ => rfl) fun w hh => c_spec_l00Src_pick w b0_ p0 v0_0 _ rfl (hh.handed [2] rfl rfl rfl rfl) (hh.apart [2] rfl (hh.rd 1 rfl)) _ _ hr3) (fun _ => ?_)
  refine JL_q (wants_none rfl) rfl (ex_add rfl rfl) ?_
  refine JL_q (wants_none rfl) rfl (ex_assign rfl) ?_
  refine JL_nil ?_
  refine N_then ?_
  refine J_loop' (S := Int × (Ik .u64) × (List Int) × Int) (G := Value) (F_spec_l10DrawWord_L1 p0 p3) (fun s4 g5 => [(0, .pointer (some ⟨b0_, 0, none⟩)), (3, .int .i64 p3), (9, g5), (10, .int .i64 s4.2.2.2)]) (fun s4 g5 => [rest w B_, .rd v0_0 p0.code, .bx b0_ 69 [v0_0, .int .i64 s4.1, .int .u64 s4.2.1.val], .ow 2 g5 s4.2.2.1, .tkn (.int .i64 0) (0 : Int) (restL w B_)]) (r2.2.1, r2.2.2, ([] : List Int), (w64 (p1 + r2.1))) (.slice (some ⟨b1, 0, none⟩) 0 0) ⟨rfl, rfl, rfl, rfl, trivial⟩ [4, 2, 0, 1, 3] rfl rfl (fun s4 g5 => ?_) (fun s4 g5 => ?_)
  · unfold F_spec_l10DrawWord_L1
    refine J_seq ?_
    refine J_seq ?_
    refine J_region ?_
    refine JL_q (wants_none rfl) rfl (ex_move rfl) ?_
    refine JL_q (wants_none rfl) rfl (ex_gtr rfl rfl) ?_
    refine JL_nil ?_
    refine N_then ?_
    refine J_if rfl (fun h6 => ?_) (fun h6 => ?_)
    · refine J_skip ?_
      refine N_then ?_
      refine J_seq ?_
      refine J_block ?_
      refine J_region ?_
      refine JL_q (wants_none rfl) rfl (ex_move rfl) ?_
      refine JL_q (wants_none rfl) rfl (ex_move rfl) ?_
      refine JL_q (wants_none rfl) rfl (ex_move rfl) ?_
      refine JL_bnd fun r7 hr8 => ?_
      refine JL_callT (wants_none rfl) rfl Try.call17 rfl (CaT_of [2] [0, 1, 3, 4] rfl rfl (fun _ => rfl) fun w hh => c_spec_l00Src_pick w b0_ (⟨p0.code, s4.1, s4.2.1⟩ : Gl00Src) v0_0 _ rfl (hh.handed [2] rfl rfl rfl rfl) (hh.apart [2] rfl (hh.rd 1 rfl)) _ _ hr8) (fun _ => ?_)
      refine JL_st (wants_none rfl) rfl (st_buildSlice (vs := [.int .i64 r7.1]) ([r7.1] : List Int) Try.underlying25 ti_2 zi_2 rfl rfl rfl (fun w hh => ⟨(Rd.mk_int _ _ _), trivial⟩)) (fun b9 => ?_)
      refine JL_bnd fun z10 hz11 => ?_
      refine JL_st (wants_none rfl) rfl (st_append 4 Try.underlying25 ti_2 zi_2 rfl bi_2 rfl rfl rfl rfl (fun w hh => hh.src_ow 0 rfl) hz11) (fun v12 => ?_)
      refine JL_q (wants_none rfl) rfl (ex_assign rfl) ?_
      refine JL_nil ?_
      refine N_block ?_
      refine N_then ?_
      refine J_region ?_
      refine JL_q (wants_none rfl) rfl (ex_move rfl) ?_
      refine JL_q (wants_none rfl) rfl (ex_sub rfl rfl) ?_
      refine JL_q (wants_none rfl) rfl (ex_assign rfl) ?_
      refine JL_nil ?_
      exact N_next' v12 ⟨rfl, rfl, rfl, rfl, trivial⟩ [2, 3, 1, 4, 5] rfl rfl
    · refine J_exit ?_
      refine N_then_exit ?_
      exact N_break' g5 ⟨rfl, rfl, rfl, rfl, trivial⟩ [0, 1, 2, 3, 4] rfl rfl
  · refine N_then ?_
    refine J_seq ?_
    refine J_region ?_
    refine JL_q (wants_none rfl) rfl (ex_move rfl) ?_
    refine JL_q (wants_none rfl) rfl (ex_assign rfl) ?_
    refine JL_nil ?_
    refine N_then ?_
    refine J_ret ?_
    exact N_ret1 rfl (rv_tmp rfl) (fun w hh => ⟨g5, rfl, hh.sel [3, 2, 4, 0] rfl⟩)

set_option maxHeartbeats 40000000 in
theorem c_spec_l00Src_one (w : World) (b0_ : Nat) (p0 : Gl00Src) (v0_0 : Value) (B_ : List Nat) (hB_ : Ctx.owns [.bx b0_ 69 [v0_0, .int .i64 p0.at_, .int .u64 p0.seed.val]] = B_) (hn_ : PHanded w [.bx b0_ 69 [v0_0, .int .i64 p0.at_, .int .u64 p0.seed.val]]) (hp0_0 : Rd (fun k => k ∈ B_) w v0_0 p0.code) (p1 : Int) (r : (Bool) × (Int × (Ik .u64))) (hr : F_spec_l00Src_one p0 p1 = some r) :
    PtrCon Try.prog 41 [.pointer (some ⟨b0_, 0, none⟩), .int .i64 p1] w B_ (fun x_ : Unit => .bool r.1) (fun x_ => [.bx b0_ 69 [v0_0, .int .i64 r.2.1, .int .u64 r.2.2.val]]) := by
  refine PtrCon_of (v := fun (r : (Bool) × (Int × (Ik .u64))) (x_ : Unit) => .bool r.1) (fs := fun r x_ => [.bx b0_ 69 [v0_0, .int .i64 r.2.1, .int .u64 r.2.2.val]]) Try.func41 rfl Try.ntmps41 rfl (show SH nowhere (bare w) w [.rd v0_0 p0.code, .bx b0_ 69 [v0_0, .int .i64 p0.at_, .int .u64 p0.seed.val], .tkn (.int .i64 0) (0 : Int) (restL w B_), rest w B_] from ((SH.begin hB_ hn_).cons_apart hB_ hp0_0)) rfl ?_ hr
  unfold F_spec_l00Src_one
  refine J_seq ?_
  refine J_region ?_
  refine JL_q (wants_none rfl) rfl (ex_assign rfl) ?_
  refine JL_nil ?_
  refine N_then ?_
  refine J_seq ?_
  refine J_region ?_
  refine JL_q (wants_none rfl) rfl (ex_move rfl) ?_
  refine JL_q (wants_none rfl) rfl (ex_move rfl) ?_
  refine JL_bnd fun r1 hr2 => ?_
  refine JL_callT (wants_none rfl) rfl Try.call17 rfl (CaT_of [1] [0, 2, 3] rfl rfl (fun _ => rfl) fun w hh => c_spec_l00Src_pick w b0_ p0 v0_0 _ rfl (hh.handed [1] rfl rfl rfl rfl) (hh.apart [1] rfl (hh.rd 0 rfl)) _ _ hr2) (fun _ => ?_)
  refine JL_q (wants_none rfl) rfl (ex_eql rfl rfl) ?_
  refine JL_q (wants_none rfl) rfl (ex_assign rfl) ?_
  refine JL_nil ?_
  refine N_then ?_
  refine J_ret ?_
  exact N_ret1 rfl (rv_tmp rfl) (fun w hh => ⟨(), rfl, hh.sel [0, 2, 3] rfl⟩)

set_option maxHeartbeats 40000000 in
theorem c_spec_l10DrawOk (w : World) (b0_ : Nat) (p0 : Gl00Src) (v0_0 : Value) (B_ : List Nat) (hB_ : Ctx.owns [.bx b0_ 69 [v0_0, .int .i64 p0.at_, .int .u64 p0.seed.val]] = B_) (hn_ : PHanded w [.bx b0_ 69 [v0_0, .int .i64 p0.at_, .int .u64 p0.seed.val]]) (hp0_0 : Rd (fun k => k ∈ B_) w v0_0 p0.code) (r : ((List GRewrite)) × (Int × (Ik .u64))) (hr : F_spec_l10DrawOk p0 = some r) :
    PtrCon Try.prog 15 [.pointer (some ⟨b0_, 0, none⟩)] w B_ (fun x_ : Value × List Nat => x_.1) (fun x_ => [.od 50 x_.1 r.1 x_.2, .bx b0_ 69 [v0_0, .int .i64 r.2.1, .int .u64 r.2.2.val]]) := by
  refine PtrCon_of (v := fun (r : ((List GRewrite)) × (Int × (Ik .u64))) (x_ : Value × List Nat) => x_.1) (fs := fun r x_ => [.od 50 x_.1 r.1 x_.2, .bx b0_ 69 [v0_0, .int .i64 r.2.1, .int .u64 r.2.2.val]]) Try.func15 rfl Try.ntmps15 rfl (show SH nowhere (bare w) w [.rd v0_0 p0.code, .bx b0_ 69 [v0_0, .int .i64 p0.at_, .int .u64 p0.seed.val], .tkn (.int .i64 0) (0 : Int) (restL w B_), rest w B_] from ((SH.begin hB_ hn_).cons_apart hB_ hp0_0)) rfl ?_ hr
  unfold F_spec_l10DrawOk
  refine J_seq ?_
  refine J_region ?_
  refine JL_q (wants_none rfl) rfl (ex_assign rfl) ?_
  refine JL_nil ?_
  refine N_then ?_
  refine J_seq ?_
  refine J_region ?_
  refine JL_q (wants_none rfl) rfl (ex_move rfl) ?_
  refine JL_bnd fun r1 hr2 => ?_
  refine JL_callT (wants_none rfl) rfl Try.call17 rfl (CaT_of [1] [0, 2, 3] rfl rfl (fun _ => rfl) fun w hh => c_spec_l00Src_pick w b0_ p0 v0_0 _ rfl (hh.handed [1] rfl rfl rfl rfl) (hh.apart [1] rfl (hh.rd 0 rfl)) _ _ hr2) (fun _ => ?_)
  refine JL_q (wants_none rfl) rfl (ex_add rfl rfl) ?_
  refine JL_q (wants_none rfl) rfl (ex_assign rfl) ?_
  refine JL_nil ?_
  refine N_then ?_
  refine J_seq ?_
  refine J_region ?_
  refine JL_st (wants_none rfl) rfl (st_buildSlice_od (vs := []) (B := ([] : List Nat)) ([] : List GRewrite) [] Try.underlying24 ti_50 zi_50 rfl rfl rfl rfl rfl (fun w hh => dwv_nil)) (fun b3 => ?_)
  refine JL_q (wants_none rfl) rfl (ex_assign rfl) ?_
  refine JL_nil ?_
  refine N_then ?_
  refine J_seq ?_
  refine J_seq ?_
  refine J_region ?_
  refine JL_q (wants_none rfl) rfl (ex_move rfl) ?_
  refine JL_bnd fun r4 hr5 => ?_
  refine JL_callT (wants_none rfl) rfl Try.call17 rfl (CaT_of [1] [0, 2, 3, 4] rfl rfl (fun _ => rfl) fun w hh => c_spec_l00Src_pick w b0_ (⟨p0.code, r1.2.1, r1.2.2⟩ : Gl00Src) v0_0 _ rfl (hh.handed [1] rfl rfl rfl rfl) (hh.apart [1] rfl (hh.rd 2 rfl)) _ _ hr5) (fun _ => ?_)
  refine JL_q (wants_none rfl) rfl (ex_add rfl rfl) ?_
  refine JL_q (wants_none rfl) rfl (ex_assign rfl) ?_
  refine JL_nil ?_
  refine N_then ?_
  refine J_loop' (S := Int × (Ik .u64) × (List GRewrite) × Int) (G := Value × List Nat) (F_spec_l10DrawOk_L1 p0 r1) (fun s6 g7 => [(0, .pointer (some ⟨b0_, 0, none⟩)), (3, .int .i64 (w64 (2 + r1.1))), (4, g7.1), (5, .int .i64 s6.2.2.2)]) (fun s6 g7 => [rest w B_, .rd v0_0 p0.code, .bx b0_ 69 [v0_0, .int .i64 s6.1, .int .u64 s6.2.1.val], .od 50 g7.1 s6.2.2.1 g7.2, .tkn (.int .i64 0) (0 : Int) (restL w B_)]) (r4.2.1, r4.2.2, ([] : List GRewrite), (w64 (1 + r4.1))) ((.slice (some ⟨b3, 0, none⟩) 0 0), ([] : List Nat)) ⟨rfl, rfl, rfl, rfl, trivial⟩ [4, 2, 0, 1, 3] rfl rfl (fun s6 g7 => ?_) (fun s6 g7 => ?_)
  · obtain ⟨g7_0, g7_1⟩ := g7
    unfold F_spec_l10DrawOk_L1
    refine J_seq ?_
    refine J_seq ?_
    refine J_region ?_
    refine JL_q (wants_none rfl) rfl (ex_move rfl) ?_
    refine JL_q (wants_none rfl) rfl (ex_gtr rfl rfl) ?_
    refine JL_nil ?_
    refine N_then ?_
    refine J_if rfl (fun h8 => ?_) (fun h8 => ?_)
    · refine J_skip ?_
      refine N_then ?_
      refine J_seq ?_
      refine J_block ?_
      refine J_seq ?_
      refine J_region ?_
      refine JL_q (wants_none rfl) rfl (ex_move rfl) ?_
      refine JL_q (wants_none rfl) rfl (ex_move rfl) ?_
      refine JL_bnd fun r9 hr10 => ?_
      refine JL_callT (wants_none rfl) rfl Try.call16 rfl (CaT_of [2] [0, 1, 3, 4] rfl rfl (fun _ => rfl) fun w hh => c_spec_l10DrawWord w b0_ (⟨p0.code, s6.1, s6.2.1⟩ : Gl00Src) v0_0 _ rfl (hh.handed [2] rfl rfl rfl rfl) (hh.apart [2] rfl (hh.rd 1 rfl)) _ _ _ _ hr10) (fun x11 => ?_)
      refine JL_q (wants_none rfl) rfl (ex_assign rfl) ?_
      refine JL_nil ?_
      refine N_then ?_
      refine J_seq ?_
      refine J_region ?_
      refine JL_q (wants_none rfl) rfl (ex_move rfl) ?_
      refine JL_q (wants_none rfl) rfl (ex_len_ow 0 Try.underlying25 rfl rfl) ?_
      refine JL_q (wants_none rfl) rfl (ex_assign rfl) ?_
      refine JL_nil ?_
      refine N_then ?_
      refine J_seq ?_
      refine J_seq ?_
      refine J_region ?_
      refine JL_q (wants_none rfl) rfl (ex_move rfl) ?_
      refine JL_bnd fun r12 hr13 => ?_
      refine JL_callT (wants_none rfl) rfl Try.call41 rfl (CaT_of [1] [0, 2, 3, 4, 5] rfl rfl (fun _ => rfl) fun w hh => c_spec_l00Src_one w b0_ (⟨p0.code, r9.2.1, r9.2.2⟩ : Gl00Src) v0_0 _ rfl (hh.handed [1] rfl rfl rfl rfl) (hh.apart [1] rfl (hh.rd 3 rfl)) _ _ hr13) (fun _ => ?_)
      refine JL_nil ?_
      refine N_then ?_
      refine J_if rfl (fun h14 => ?_) (fun h14 => ?_)
      · refine J_region ?_
        refine JL_q (wants_none rfl) rfl (ex_move rfl) ?_
        refine JL_q (wants_none rfl) rfl (ex_add rfl rfl) ?_
        refine JL_q (wants_none rfl) rfl (ex_assign rfl) ?_
        refine JL_nil ?_
        refine N_then ?_
        refine J_region ?_
        refine JL_q (wants_none rfl) rfl (ex_move rfl) ?_
        refine JL_q (wants_none rfl) rfl (ex_move rfl) ?_
        refine JL_q (wants_none rfl) rfl (ex_move rfl) ?_
        refine JL_q (wants_none rfl) rfl (ex_move rfl) ?_
        refine JL_q (wants_none rfl) rfl (ex_move rfl) ?_
        refine JL_bnd fun r15 hr16 => ?_
        refine JL_callT (wants_none rfl) rfl Try.call16 rfl (CaT_of [0] [1, 2, 3, 4, 5] rfl rfl (fun _ => rfl) fun w hh => c_spec_l10DrawWord w b0_ (⟨p0.code, r12.2.1, r12.2.2⟩ : Gl00Src) v0_0 _ rfl (hh.handed [0] rfl rfl rfl rfl) (hh.apart [0] rfl (hh.rd 3 rfl)) _ _ _ _ hr16) (fun x17 => ?_)
        refine JL_q (wants_none rfl) rfl (ex_build si_50 rfl (.cons fi_50_0 rfl rfl (.cons fi_50_1 rfl rfl .nil)) (fun w hh => ⟨(hh.cv_ow 2 rfl), (hh.cv_ow 0 rfl), trivial⟩)) ?_
        refine JL_ctx (fun w hh => hh.tokf 2 rfl rfl) ?_
        refine JL_ctx (fun w hh => hh.tokf 1 rfl rfl) ?_
        refine JL_st (wants_none rfl) rfl (st_buildSlice_od (vs := [.agg #[x11, x17]]) (B := (((x11 : Value).ownBlock.toList ++ []) ++ (((x17 : Value).ownBlock.toList ++ []) ++ []))) ([(⟨r9.1, r15.1⟩ : GRewrite)] : List GRewrite) [1, 0] Try.underlying24 ti_50 zi_50 rfl rfl rfl rfl rfl (fun w hh => (dwv_cons (GRewrite.dw (hh.dw 1 rfl) (hh.dw 0 rfl)) dwv_nil))) (fun b18 => ?_)
        refine JL_bnd fun z19 hz20 => ?_
        refine JL_st (wants_none rfl) rfl (st_append_od 8 0 Try.underlying24 ti_50 zi_50 rfl bi_50 rfl rfl rfl rfl rfl rfl hz20) (fun v21 => ?_)
        refine JL_q (wants_none rfl) rfl (ex_assign rfl) ?_
        refine JL_nil ?_
        refine N_block ?_
        refine N_then ?_
        refine J_region ?_
        refine JL_q (wants_none rfl) rfl (ex_move rfl) ?_
        refine JL_q (wants_none rfl) rfl (ex_sub rfl rfl) ?_
        refine JL_q (wants_none rfl) rfl (ex_assign rfl) ?_
        refine JL_nil ?_
        exact N_next' (v21, (g7_1 ++ (((x11 : Value).ownBlock.toList ++ []) ++ (((x17 : Value).ownBlock.toList ++ []) ++ [])))) ⟨rfl, rfl, rfl, rfl, trivial⟩ [6, 7, 4, 8, 9] rfl rfl
      · refine J_skip ?_
        refine N_then ?_
        refine J_region ?_
        refine JL_q (wants_none rfl) rfl (ex_move rfl) ?_
        refine JL_q (wants_none rfl) rfl (ex_move rfl) ?_
        refine JL_q (wants_none rfl) rfl (ex_move rfl) ?_
        refine JL_q (wants_none rfl) rfl (ex_move rfl) ?_
        refine JL_q (wants_none rfl) rfl (ex_move rfl) ?_
        refine JL_bnd fun r22 hr23 => ?_
        refine JL_callT (wants_none rfl) rfl Try.call16 rfl (CaT_of [0] [1, 2, 3, 4, 5] rfl rfl (fun _ => rfl) fun w hh => c_spec_l10DrawWord w b0_ (⟨p0.code, r12.2.1, r12.2.2⟩ : Gl00Src) v0_0 _ rfl (hh.handed [0] rfl rfl rfl rfl) (hh.apart [0] rfl (hh.rd 3 rfl)) _ _ _ _ hr23) (fun x24 => ?_)
        refine JL_q (wants_none rfl) rfl (ex_build si_50 rfl (.cons fi_50_0 rfl rfl (.cons fi_50_1 rfl rfl .nil)) (fun w hh => ⟨(hh.cv_ow 2 rfl), (hh.cv_ow 0 rfl), trivial⟩)) ?_
        refine JL_ctx (fun w hh => hh.tokf 2 rfl rfl) ?_
        refine JL_ctx (fun w hh => hh.tokf 1 rfl rfl) ?_
        refine JL_st (wants_none rfl) rfl (st_buildSlice_od (vs := [.agg #[x11, x24]]) (B := (((x11 : Value).ownBlock.toList ++ []) ++ (((x24 : Value).ownBlock.toList ++ []) ++ []))) ([(⟨r9.1, r22.1⟩ : GRewrite)] : List GRewrite) [1, 0] Try.underlying24 ti_50 zi_50 rfl rfl rfl rfl rfl (fun w hh => (dwv_cons (GRewrite.dw (hh.dw 1 rfl) (hh.dw 0 rfl)) dwv_nil))) (fun b25 => ?_)
        refine JL_bnd fun z26 hz27 => ?_
        refine JL_st (wants_none rfl) rfl (st_append_od 8 0 Try.underlying24 ti_50 zi_50 rfl bi_50 rfl rfl rfl rfl rfl rfl hz27) (fun v28 => ?_)
        refine JL_q (wants_none rfl) rfl (ex_assign rfl) ?_
        refine JL_nil ?_
        refine N_block ?_
        refine N_then ?_
        refine J_region ?_
        refine JL_q (wants_none rfl) rfl (ex_move rfl) ?_
        refine JL_q (wants_none rfl) rfl (ex_sub rfl rfl) ?_
        refine JL_q (wants_none rfl) rfl (ex_assign rfl) ?_
        refine JL_nil ?_
        exact N_next' (v28, (g7_1 ++ (((x11 : Value).ownBlock.toList ++ []) ++ (((x24 : Value).ownBlock.toList ++ []) ++ [])))) ⟨rfl, rfl, rfl, rfl, trivial⟩ [6, 7, 4, 8, 9] rfl rfl
    · refine J_exit ?_
      refine N_then_exit ?_
      exact N_break' (g7_0, g7_1) ⟨rfl, rfl, rfl, rfl, trivial⟩ [0, 1, 2, 3, 4] rfl rfl
  · obtain ⟨g7_0, g7_1⟩ := g7
    refine N_then ?_
    refine J_seq ?_
    refine J_region ?_
    refine JL_q (wants_none rfl) rfl (ex_move rfl) ?_
    refine JL_q (wants_none rfl) rfl (ex_assign rfl) ?_
    refine JL_nil ?_
    refine N_then ?_
    refine J_ret ?_
    exact N_ret1 rfl (rv_tmp rfl) (fun w hh => ⟨(g7_0, g7_1), rfl, hh.sel [3, 2, 4, 0] rfl⟩)

set_option maxHeartbeats 40000000 in
theorem c_spec_l00Same (A : Nat → Prop) (w : World) (hA : ∀ k, A k → k < w.heap.size) (v0_ : Value) (p0 : (List Int)) (hp0 : Rd A w v0_ p0) (v1_ : Value) (p1 : (List Int)) (hp1 : Rd A w v1_ p1) (r : Bool) (hr : F_spec_l00Same p0 p1 = some r) :
    Con Try.prog 32 [v0_, v1_] A w (fun x_ : Unit => .bool r) (fun x_ => []) := by
  refine Con_of (v := fun (r : Bool) (x_ : Unit) => .bool r) (fs := fun r x_ => []) Try.func32 rfl Try.ntmps32 rfl (((SH.start hA).start_rd rfl hp0).start_rd rfl hp1) rfl ?_ hr
  unfold F_spec_l00Same
  refine J_seq ?_
  refine J_region ?_
  refine JL_q (wants_none rfl) rfl (ex_assign rfl) ?_
  refine JL_nil ?_
  refine N_then ?_
  refine J_seq ?_
  refine J_seq ?_
  refine J_region ?_
  refine JL_q (wants_none rfl) rfl (ex_move rfl) ?_
  refine JL_q (wants_none rfl) rfl (ex_len_rd 1 Try.underlying25 rfl rfl) ?_
  refine JL_q (wants_none rfl) rfl (ex_move rfl) ?_
  refine JL_q (wants_none rfl) rfl (ex_len_rd 0 Try.underlying25 rfl rfl) ?_
  refine JL_q (wants_none rfl) rfl (ex_neq rfl rfl) ?_
  refine JL_nil ?_
  refine N_then ?_
  refine J_if rfl (fun h1 => ?_) (fun h1 => ?_)
  · refine J_seq ?_
    refine J_region ?_
    refine JL_q (wants_none rfl) rfl (ex_assign rfl) ?_
    refine JL_nil ?_
    refine N_then ?_
    refine J_ret ?_
    refine N_then_ret ?_
    exact N_ret1 rfl (rv_tmp rfl) (fun w hh => ⟨(), rfl, hh.sel [] rfl⟩)
  · refine J_skip ?_
    refine N_then ?_
    refine J_seq ?_
    refine J_seq ?_
    refine J_region ?_
    refine JL_q (wants_none rfl) rfl (ex_assign rfl) ?_
    refine JL_nil ?_
    refine N_then ?_
    refine J_loop' (S := Int) (G := Unit) (F_spec_l00Same_L1 p0 p1) (fun s2 _ => [(0, v0_), (1, v1_), (5, .int .i64 s2)]) (fun s2 _ => [.rd v0_ p0, .rd v1_ p1]) 0 () ⟨rfl, rfl, rfl, trivial⟩ [1, 0] rfl rfl (fun s2 g3 => ?_) (fun s2 g3 => ?_)
    · unfold F_spec_l00Same_L1
      refine J_seq ?_
      refine J_seq ?_
      refine J_region ?_
      refine JL_q (wants_none rfl) rfl (ex_move rfl) ?_
      refine JL_q (wants_none rfl) rfl (ex_move rfl) ?_
      refine JL_q (wants_none rfl) rfl (ex_len_rd 0 Try.underlying25 rfl rfl) ?_
      refine JL_q (wants_none rfl) rfl (ex_lss rfl rfl) ?_
      refine JL_nil ?_
      refine N_then ?_
      refine J_if rfl (fun h4 => ?_) (fun h4 => ?_)
      · refine J_skip ?_
        refine N_then ?_
        refine J_seq ?_
        refine J_block ?_
        refine J_seq ?_
        refine J_draw [] (by kernel_rfl) ?_
        refine JP_take (i := 0) [0, 1] [] rfl (by kernel_rfl) (by kernel_rfl) (by kernel_rfl) rfl rfl (wants_none rfl) rfl (ex_move rfl) ?_
        refine JP_take (i := 1) [0, 1] [] rfl (by kernel_rfl) (by kernel_rfl) (by kernel_rfl) rfl rfl (wants_none rfl) rfl (ex_move rfl) ?_
        refine JP_bnd fun y5 hy6 => ?_
        refine JP_sq (i := 2) [] rfl (by kernel_rfl) (by kernel_rfl) (by kernel_rfl) rfl (wants_none rfl) rfl (sq_index 0 Try.underlying25 ti_2 rfl rfl rfl hy6) (fun q7 => ?_)
        refine JP_sq (i := 3) [] rfl (by kernel_rfl) (by kernel_rfl) (by kernel_rfl) rfl (wants_none rfl) rfl (sq_load_pt_o 0 (opens_int _) ti_2 rfl rfl) (fun _ => ?_)
        refine JP_take (i := 4) [0, 1, 2] [] rfl (by kernel_rfl) (by kernel_rfl) (by kernel_rfl) rfl rfl (wants_none rfl) rfl (ex_move rfl) ?_
        refine JP_take (i := 5) [0, 1, 2] [] rfl (by kernel_rfl) (by kernel_rfl) (by kernel_rfl) rfl rfl (wants_none rfl) rfl (ex_move rfl) ?_
        refine JP_bnd fun y9 hy10 => ?_
        refine JP_sq (i := 6) [] rfl (by kernel_rfl) (by kernel_rfl) (by kernel_rfl) rfl (wants_none rfl) rfl (sq_index 2 Try.underlying25 ti_2 rfl rfl rfl hy10) (fun q11 => ?_)
        refine JP_sq (i := 7) [] rfl (by kernel_rfl) (by kernel_rfl) (by kernel_rfl) rfl (wants_none rfl) rfl (sq_load_pt_o 0 (opens_int _) ti_2 rfl rfl) (fun _ => ?_)
        refine JP_take (i := 8) [0, 1, 2, 3] [] rfl (by kernel_rfl) (by kernel_rfl) (by kernel_rfl) rfl rfl (wants_none rfl) rfl (ex_neq rfl rfl) ?_
        refine JP_go [] [] rfl rfl rfl (fun _ _ _ => ?_)
        refine JD_done (by kernel_rfl) ?_
        refine N_then ?_
        refine J_if rfl (fun h13 => ?_) (fun h13 => ?_)
        · refine J_seq ?_
          refine J_region ?_
          refine JL_q (wants_none rfl) rfl (ex_assign rfl) ?_
          refine JL_nil ?_
          refine N_then ?_
          refine J_ret ?_
          refine N_block_ret ?_
          refine N_then_ret ?_
          refine N_round_ret ?_
          refine N_then_ret ?_
          exact N_ret1 rfl (rv_tmp rfl) (fun w hh => ⟨(), rfl, hh.sel [] rfl⟩)
        · refine J_skip ?_
          refine N_block ?_
          refine N_then ?_
          refine J_region ?_
          refine JL_q (wants_none rfl) rfl (ex_move rfl) ?_
          refine JL_q (wants_none rfl) rfl (ex_add rfl rfl) ?_
          refine JL_q (wants_none rfl) rfl (ex_assign rfl) ?_
          refine JL_nil ?_
          exact N_next' () ⟨rfl, rfl, rfl, trivial⟩ [2, 3] rfl rfl
      · refine J_exit ?_
        refine N_then_exit ?_
        exact N_break' () ⟨rfl, rfl, rfl, trivial⟩ [0, 1] rfl rfl
    · refine N_then ?_
      refine J_seq ?_
      refine J_region ?_
      refine JL_q (wants_none rfl) rfl (ex_assign rfl) ?_
      refine JL_nil ?_
      refine N_then ?_
      refine J_ret ?_
      exact N_ret1 rfl (rv_tmp rfl) (fun w hh => ⟨(), rfl, hh.sel [] rfl⟩)

set_option maxHeartbeats 40000000 in
theorem c_spec_l03At (A : Nat → Prop) (w : World) (hA : ∀ k, A k → k < w.heap.size) (v0_ : Value) (p0 : (List Int)) (hp0 : Rd A w v0_ p0) (p1 : Int) (v2_ : Value) (p2 : (List Int)) (hp2 : Rd A w v2_ p2) (r : Bool) (hr : F_spec_l03At p0 p1 p2 = some r) :
    Con Try.prog 69 [v0_, .int .i64 p1, v2_] A w (fun x_ : Unit => .bool r) (fun x_ => []) := by
  refine Con_of (v := fun (r : Bool) (x_ : Unit) => .bool r) (fs := fun r x_ => []) Try.func69 rfl Try.ntmps69 rfl (((SH.start hA).start_rd rfl hp0).start_rd rfl hp2) rfl ?_ hr
  unfold F_spec_l03At
  refine J_seq ?_
  refine J_region ?_
  refine JL_q (wants_none rfl) rfl (ex_assign rfl) ?_
  refine JL_nil ?_
  refine N_then ?_
  refine J_seq ?_
  refine J_region ?_
  refine JL_q (wants_none rfl) rfl (ex_move rfl) ?_
  refine JL_q (wants_none rfl) rfl (ex_move rfl) ?_
  refine JL_q (wants_none rfl) rfl (ex_len_rd 0 Try.underlying25 rfl rfl) ?_
  refine JL_q (wants_none rfl) rfl (ex_add rfl rfl) ?_
  refine JL_q (wants_none rfl) rfl (ex_move rfl) ?_
  refine JL_q (wants_none rfl) rfl (ex_len_rd 1 Try.underlying25 rfl rfl) ?_
  refine JL_q (wants_none rfl) rfl (ex_leq rfl rfl) ?_
  refine JL_q (wants_none rfl) rfl (ex_move rfl) ?_
  refine JL_cond (fun h1 => ?_) (fun h1 => ?_)
  · refine JL_q (wants_some rfl rfl rfl h1) rfl (ex_move rfl) ?_
    refine JL_q (wants_some rfl rfl rfl h1) rfl (ex_move rfl) ?_
    refine JL_q (wants_some rfl rfl rfl h1) rfl (ex_move rfl) ?_
    refine JL_q (wants_some rfl rfl rfl h1) rfl (ex_move rfl) ?_
    refine JL_q (wants_some rfl rfl rfl h1) rfl (ex_len_rd 0 Try.underlying25 rfl rfl) ?_
    refine JL_q (wants_some rfl rfl rfl h1) rfl (ex_add rfl rfl) ?_
    refine JL_bnd fun z2 hz3 => ?_
    refine JL_st (wants_some rfl rfl rfl h1) rfl (st_slice 1 Try.underlying25 ti_2 rfl rfl rfl rfl hz3) (fun v4 => ?_)
    refine JL_q (wants_some rfl rfl rfl h1) rfl (ex_move rfl) ?_
    refine JL_bnd fun r5 hr6 => ?_
    refine JL_call (wants_some rfl rfl rfl h1) rfl Try.call32 rfl (Ca_of0 fun w hh => c_spec_l00Same _ w (fun _ hk => hk.elim) _ _ (hh.rd0 0 rfl) _ _ (hh.rd0 1 rfl) _ hr6) (fun _ => ?_)
    refine JL_q (wants_none rfl) rfl (ex_pick_true rfl h1 rfl) ?_
    refine JL_q (wants_none rfl) rfl (ex_assign rfl) ?_
    refine JL_nil ?_
    refine N_then ?_
    refine J_ret ?_
    exact N_ret1 rfl (rv_tmp rfl) (fun w hh => ⟨(), rfl, hh.sel [] rfl⟩)
  · refine JL_passed rfl rfl rfl h1 ?_
    refine JL_passed rfl rfl rfl h1 ?_
    refine JL_passed rfl rfl rfl h1 ?_
    refine JL_passed rfl rfl rfl h1 ?_
    refine JL_passed rfl rfl rfl h1 ?_
    refine JL_passed rfl rfl rfl h1 ?_
    refine JL_passed rfl rfl rfl h1 ?_
    refine JL_passed rfl rfl rfl h1 ?_
    refine JL_passed rfl rfl rfl h1 ?_
    refine JL_q (wants_none rfl) rfl (ex_pick_false rfl h1 rfl) ?_
    refine JL_q (wants_none rfl) rfl (ex_assign rfl) ?_
    refine JL_nil ?_
    refine N_then ?_
    refine J_ret ?_
    exact N_ret1 rfl (rv_tmp rfl) (fun w hh => ⟨(), rfl, hh.sel [] rfl⟩)

set_option maxHeartbeats 40000000 in
theorem c_spec_l00Own (A : Nat → Prop) (w : World) (hA : ∀ k, A k → k < w.heap.size) (v0_ : Value) (p0 : (List Int)) (hp0 : Rd A w v0_ p0) (r : (List Int)) (hr : F_spec_l00Own p0 = some r) :
    Con Try.prog 33 [v0_] A w (fun x_ : Value => x_) (fun x_ => [.ow 2 x_ r]) := by
  refine Con_of (v := fun (r : (List Int)) (x_ : Value) => x_) (fs := fun r x_ => [.ow 2 x_ r]) Try.func33 rfl Try.ntmps33 rfl ((SH.start hA).start_rd rfl hp0) rfl ?_ hr
  unfold F_spec_l00Own
  refine J_seq ?_
  refine J_region ?_
  refine JL_q (wants_none rfl) rfl (ex_assign rfl) ?_
  refine JL_nil ?_
  refine N_then ?_
  refine J_seq ?_
  refine J_region ?_
  refine JL_st (wants_none rfl) rfl (st_buildSlice (vs := []) ([] : List Int) Try.underlying25 ti_2 zi_2 rfl rfl rfl (fun w hh => trivial)) (fun b1 => ?_)
  refine JL_q (wants_none rfl) rfl (ex_move rfl) ?_
  refine JL_bnd fun z2 hz3 => ?_
  refine JL_st (wants_none rfl) rfl (st_append 0 Try.underlying25 ti_2 zi_2 rfl bi_2 rfl rfl rfl rfl (fun w hh => hh.src_rd 1 rfl) hz3) (fun v4 => ?_)
  refine JL_q (wants_none rfl) rfl (ex_assign rfl) ?_
  refine JL_nil ?_
  refine N_then ?_
  refine J_ret ?_
  exact N_ret1 rfl (rv_tmp rfl) (fun w hh => ⟨v4, rfl, hh.sel [0] rfl⟩)

set_option maxHeartbeats 40000000 in
theorem c_spec_l03Put (A : Nat → Prop) (w : World) (hA : ∀ k, A k → k < w.heap.size) (v0_ : Value) (p0 : (List Int)) (hp0 : Rd A w v0_ p0) (p1 : Int) (p2 : Int) (v3_ : Value) (p3 : (List Int)) (hp3 : Rd A w v3_ p3) (r : (List Int)) (hr : F_spec_l03Put p0 p1 p2 p3 = some r) :
    Con Try.prog 35 [v0_, .int .i64 p1, .int .i64 p2, v3_] A w (fun x_ : Value => x_) (fun x_ => [.ow 2 x_ r]) := by
  refine Con_of (v := fun (r : (List Int)) (x_ : Value) => x_) (fs := fun r x_ => [.ow 2 x_ r]) Try.func35 rfl Try.ntmps35 rfl (((SH.start hA).start_rd rfl hp0).start_rd rfl hp3) rfl ?_ hr
  unfold F_spec_l03Put
  refine J_seq ?_
  refine J_region ?_
  refine JL_q (wants_none rfl) rfl (ex_assign rfl) ?_
  refine JL_nil ?_
  refine N_then ?_
  refine J_seq ?_
  refine J_region ?_
  refine JL_q (wants_none rfl) rfl (ex_move rfl) ?_
  refine JL_q (wants_none rfl) rfl (ex_move rfl) ?_
  refine JL_bnd fun z1 hz2 => ?_
  refine JL_st (wants_none rfl) rfl (st_slice 1 Try.underlying25 ti_2 rfl rfl rfl rfl hz2) (fun v3 => ?_)
  refine JL_bnd fun r4 hr5 => ?_
  refine JL_call (wants_none rfl) rfl Try.call33 rfl (Ca_self (fun _ => rfl) fun w hh => c_spec_l00Own _ w (fun _ hk => hk.elim) _ _ (hh.rd0 0 rfl) _ hr5) (fun x6 => ?_)
  refine JL_q (wants_none rfl) rfl (ex_assign rfl) ?_
  refine JL_nil ?_
  refine N_then ?_
  refine J_seq ?_
  refine J_region ?_
  refine JL_q (wants_none rfl) rfl (ex_move rfl) ?_
  refine JL_q (wants_none rfl) rfl (ex_move rfl) ?_
  refine JL_bnd fun z7 hz8 => ?_
  refine JL_st (wants_none rfl) rfl (st_append 0 Try.underlying25 ti_2 zi_2 rfl bi_2 rfl rfl rfl rfl (fun w hh => hh.src_rd 2 rfl) hz8) (fun v9 => ?_)
  refine JL_q (wants_none rfl) rfl (ex_assign rfl) ?_
  refine JL_nil ?_
  refine N_then ?_
  refine J_seq ?_
  refine J_region ?_
  refine JL_q (wants_none rfl) rfl (ex_move rfl) ?_
  refine JL_q (wants_none rfl) rfl (ex_move rfl) ?_
  refine JL_q (wants_none rfl) rfl (ex_move rfl) ?_
  refine JL_q (wants_none rfl) rfl (ex_move rfl) ?_
  refine JL_q (wants_none rfl) rfl (ex_add rfl rfl) ?_
  refine JL_bnd fun z10 hz11 => ?_
  refine JL_st (wants_none rfl) rfl (st_slice 3 Try.underlying25 ti_2 rfl rfl rfl rfl hz11) (fun v12 => ?_)
  refine JL_bnd fun z13 hz14 => ?_
  refine JL_st (wants_none rfl) rfl (st_append 1 Try.underlying25 ti_2 zi_2 rfl bi_2 rfl rfl rfl rfl (fun w hh => hh.src_rd 0 rfl) hz14) (fun v15 => ?_)
  refine JL_q (wants_none rfl) rfl (ex_assign rfl) ?_
  refine JL_nil ?_
  refine N_then ?_
  refine J_ret ?_
  exact N_ret1 rfl (rv_tmp rfl) (fun w hh => ⟨v15, rfl, hh.sel [1] rfl⟩)

set_option maxHeartbeats 40000000 in
theorem c_spec_l10Apply (A : Nat → Prop) (w : World) (hA : ∀ k, A k → k < w.heap.size) (v0_ : Value) (p0 : (List GRewrite)) (hp0 : Rd A w v0_ p0) (v1_ : Value) (p1 : (List Int)) (hp1 : Rd A w v1_ p1) (p2 : Int) (p3 : Int) (r : (List Int) × Int) (hr : F_spec_l10Apply p0 p1 p2 p3 = some r) :
    Con Try.prog 43 [v0_, v1_, .int .i64 p2, .int .i64 p3] A w (fun x_ : Value => .tuple #[x_, .int .i64 r.2]) (fun x_ => [.ow 2 x_ r.1]) := by
  refine Con_of (v := fun (r : (List Int) × Int) (x_ : Value) => .tuple #[x_, .int .i64 r.2]) (fs := fun r x_ => [.ow 2 x_ r.1]) Try.func43 rfl Try.ntmps43 rfl (((SH.start hA).start_rd rfl hp0).start_rd rfl hp1) rfl ?_ hr
  unfold F_spec_l10Apply
  refine J_seq ?_
  refine J_region ?_
  refine JL_q (wants_none rfl) rfl (ex_assign rfl) ?_
  refine JL_q (wants_none rfl) rfl (ex_assign rfl) ?_
  refine JL_nil ?_
  refine N_then ?_
  refine J_seq ?_
  refine J_region ?_
  refine JL_q (wants_none rfl) rfl (ex_move rfl) ?_
  refine JL_q (wants_none rfl) rfl (ex_move rfl) ?_
  refine JL_bnd fun y1 hy2 => ?_
  refine JL_st (wants_none rfl) rfl (st_index 1 Try.underlying24 ti_50 rfl rfl rfl hy2) (fun q3 => ?_)
  refine JL_q (wants_none rfl) rfl (ex_assign rfl) ?_
  refine JL_nil ?_
  refine N_then ?_
  refine J_seq ?_
  refine J_seq ?_
  refine J_region ?_
  refine JL_q (wants_none rfl) rfl (ex_move rfl) ?_
  refine JL_q (wants_none rfl) rfl (ex_move rfl) ?_
  refine JL_q (wants_none rfl) rfl (ex_move rfl) ?_
  refine JL_q (wants_none rfl) rfl (ex_nilCheck_pt 0 rfl rfl) ?_
  refine JL_st (wants_none rfl) rfl (st_field_pt 0 (GRewrite.at_From _) fi_50_0 rfl rfl rfl) (fun q4 => ?_)
  refine JL_st (wants_none rfl) rfl (st_load_pt_o 0 (opens_sl _) ti_25 rfl rfl) (fun v5 => ?_)
  refine JL_bnd fun r6 hr7 => ?_
  refine JL_call (wants_none rfl) rfl Try.call69 rfl (Ca_of0 fun w hh => c_spec_l03At _ w (fun _ hk => hk.elim) _ _ (hh.rd0 3 rfl) _ _ _ (hh.rd0 0 rfl) _ hr7) (fun _ => ?_)
  refine JL_q (wants_none rfl) rfl (ex_not rfl) ?_
  refine JL_nil ?_
  refine N_then ?_
  refine J_if rfl (fun h8 => ?_) (fun h8 => ?_)
  · refine J_seq ?_
    refine J_region ?_
    refine JL_q (wants_none rfl) rfl (ex_assign rfl) ?_
    refine JL_q (wants_none rfl) rfl (ex_assign rfl) ?_
    refine JL_nil ?_
    refine N_then ?_
    refine J_ret ?_
    refine N_then_ret ?_
    refine N_ctx (fun w hh => SH.ow_nil (α := Int) 2 hh) ?_
    exact N_ret2 rfl (rv_tmp rfl) (rv_tmp rfl) (fun w hh => ⟨(.slice none 0 0 : Value), rfl, hh.sel [0] rfl⟩)
  · refine J_skip ?_
    refine N_then ?_
    refine J_seq ?_
    refine J_seq ?_
    refine J_draw [] (by kernel_rfl) ?_
    refine JP_take (i := 0) [0, 1, 2, 3, 4] [] rfl (by kernel_rfl) (by kernel_rfl) (by kernel_rfl) rfl rfl (wants_none rfl) rfl (ex_move rfl) ?_
    refine JP_take (i := 1) [0, 1, 2, 3, 4] [] rfl (by kernel_rfl) (by kernel_rfl) (by kernel_rfl) rfl rfl (wants_none rfl) rfl (ex_len_rd 3 Try.underlying25 rfl rfl) ?_
    refine JP_take (i := 2) [0, 1, 2, 3, 4] [] rfl (by kernel_rfl) (by kernel_rfl) (by kernel_rfl) rfl rfl (wants_none rfl) rfl (ex_move rfl) ?_
    refine JP_take (i := 3) [0, 1, 2, 3, 4] [] rfl (by kernel_rfl) (by kernel_rfl) (by kernel_rfl) rfl rfl (wants_none rfl) rfl (ex_nilCheck_pt 2 rfl rfl) ?_
    refine JP_sq (i := 4) [] rfl (by kernel_rfl) (by kernel_rfl) (by kernel_rfl) rfl (wants_none rfl) rfl (sq_field_pt 2 (GRewrite.at_From _) fi_50_0 rfl rfl rfl) (fun q9 => ?_)
    refine JP_sq (i := 5) [] rfl (by kernel_rfl) (by kernel_rfl) (by kernel_rfl) rfl (wants_none rfl) rfl (sq_load_pt_o 0 (opens_sl _) ti_25 rfl rfl) (fun v10 => ?_)
    refine JP_take (i := 6) [0, 1, 2, 3, 4, 5, 6] [] rfl (by kernel_rfl) (by kernel_rfl) (by kernel_rfl) rfl rfl (wants_none rfl) rfl (ex_len_rd 0 Try.underlying25 rfl rfl) ?_
    refine JP_take (i := 7) [0, 1, 2, 3, 4, 5, 6] [] rfl (by kernel_rfl) (by kernel_rfl) (by kernel_rfl) rfl rfl (wants_none rfl) rfl (ex_sub rfl rfl) ?_
    refine JP_take (i := 8) [0, 1, 2, 3, 4, 5, 6] [] rfl (by kernel_rfl) (by kernel_rfl) (by kernel_rfl) rfl rfl (wants_none rfl) rfl (ex_move rfl) ?_
    refine JP_take (i := 9) [0, 1, 2, 3, 4, 5, 6] [] rfl (by kernel_rfl) (by kernel_rfl) (by kernel_rfl) rfl rfl (wants_none rfl) rfl (ex_nilCheck_pt 4 rfl rfl) ?_
    refine JP_sq (i := 10) [] rfl (by kernel_rfl) (by kernel_rfl) (by kernel_rfl) rfl (wants_none rfl) rfl (sq_field_pt 4 (GRewrite.at_To _) fi_50_1 rfl rfl rfl) (fun q11 => ?_)
    refine JP_sq (i := 11) [] rfl (by kernel_rfl) (by kernel_rfl) (by kernel_rfl) rfl (wants_none rfl) rfl (sq_load_pt_o 0 (opens_sl _) ti_25 rfl rfl) (fun v12 => ?_)
    refine JP_take (i := 12) [0, 1, 2, 3, 4, 5, 6, 7, 8] [] rfl (by kernel_rfl) (by kernel_rfl) (by kernel_rfl) rfl rfl (wants_none rfl) rfl (ex_len_rd 0 Try.underlying25 rfl rfl) ?_
    refine JP_take (i := 13) [0, 1, 2, 3, 4, 5, 6, 7, 8] [] rfl (by kernel_rfl) (by kernel_rfl) (by kernel_rfl) rfl rfl (wants_none rfl) rfl (ex_add rfl rfl) ?_
    refine JP_take (i := 14) [0, 1, 2, 3, 4, 5, 6, 7, 8] [] rfl (by kernel_rfl) (by kernel_rfl) (by kernel_rfl) rfl rfl (wants_none rfl) rfl (ex_gtr rfl rfl) ?_
    refine JP_go [] [] rfl rfl rfl (fun _ _ _ => ?_)
    refine JD_done (by kernel_rfl) ?_
    refine N_then ?_
    refine J_if rfl (fun h13 => ?_) (fun h13 => ?_)
    · refine J_seq ?_
      refine J_region ?_
      refine JL_q (wants_none rfl) rfl (ex_assign rfl) ?_
      refine JL_q (wants_none rfl) rfl (ex_assign rfl) ?_
      refine JL_nil ?_
      refine N_then ?_
      refine J_ret ?_
      refine N_then_ret ?_
      refine N_ctx (fun w hh => SH.ow_nil (α := Int) 2 hh) ?_
      exact N_ret2 rfl (rv_tmp rfl) (rv_tmp rfl) (fun w hh => ⟨(.slice none 0 0 : Value), rfl, hh.sel [0] rfl⟩)
    · refine J_skip ?_
      refine N_then ?_
      refine J_seq ?_
      refine J_draw [] (by kernel_rfl) ?_
      refine JP_take (i := 0) [0, 1, 2, 3, 4, 5, 6, 7, 8] [] rfl (by kernel_rfl) (by kernel_rfl) (by kernel_rfl) rfl rfl (wants_none rfl) rfl (ex_move rfl) ?_
      refine JP_take (i := 1) [0, 1, 2, 3, 4, 5, 6, 7, 8] [] rfl (by kernel_rfl) (by kernel_rfl) (by kernel_rfl) rfl rfl (wants_none rfl) rfl (ex_move rfl) ?_
      refine JP_take (i := 2) [0, 1, 2, 3, 4, 5, 6, 7, 8] [] rfl (by kernel_rfl) (by kernel_rfl) (by kernel_rfl) rfl rfl (wants_none rfl) rfl (ex_move rfl) ?_
      refine JP_take (i := 3) [0, 1, 2, 3, 4, 5, 6, 7, 8] [] rfl (by kernel_rfl) (by kernel_rfl) (by kernel_rfl) rfl rfl (wants_none rfl) rfl (ex_nilCheck_pt 6 rfl rfl) ?_
      refine JP_sq (i := 4) [] rfl (by kernel_rfl) (by kernel_rfl) (by kernel_rfl) rfl (wants_none rfl) rfl (sq_field_pt 6 (GRewrite.at_From _) fi_50_0 rfl rfl rfl) (fun q14 => ?_)
      refine JP_sq (i := 5) [] rfl (by kernel_rfl) (by kernel_rfl) (by kernel_rfl) rfl (wants_none rfl) rfl (sq_load_pt_o 0 (opens_sl _) ti_25 rfl rfl) (fun v15 => ?_)
      refine JP_take (i := 6) [0, 1, 2, 3, 4, 5, 6, 7, 8, 9, 10] [] rfl (by kernel_rfl) (by kernel_rfl) (by kernel_rfl) rfl rfl (wants_none rfl) rfl (ex_len_rd 0 Try.underlying25 rfl rfl) ?_
      refine JP_take (i := 7) [0, 1, 2, 3, 4, 5, 6, 7, 8, 9, 10] [] rfl (by kernel_rfl) (by kernel_rfl) (by kernel_rfl) rfl rfl (wants_none rfl) rfl (ex_move rfl) ?_
      refine JP_take (i := 8) [0, 1, 2, 3, 4, 5, 6, 7, 8, 9, 10] [] rfl (by kernel_rfl) (by kernel_rfl) (by kernel_rfl) rfl rfl (wants_none rfl) rfl (ex_nilCheck_pt 8 rfl rfl) ?_
      refine JP_sq (i := 9) [] rfl (by kernel_rfl) (by kernel_rfl) (by kernel_rfl) rfl (wants_none rfl) rfl (sq_field_pt 8 (GRewrite.at_To _) fi_50_1 rfl rfl rfl) (fun q16 => ?_)
      refine JP_sq (i := 10) [] rfl (by kernel_rfl) (by kernel_rfl) (by kernel_rfl) rfl (wants_none rfl) rfl (sq_load_pt_o 0 (opens_sl _) ti_25 rfl rfl) (fun v17 => ?_)
      refine JP_go [0, 1, 2, 3, 4, 5, 6, 7, 8, 9, 10, 11, 12] [] rfl rfl rfl (fun w19 h1_20 hp18 => ?_)
      refine JD_bnd fun r21 hr22 => ?_
      refine JD_one (i := 11) (by kernel_rfl) ?_
      refine JO_call rfl (wants_none rfl) rfl Try.call35 rfl (Ca_self (fun _ => rfl) fun w hh => c_spec_l03Put _ w (fun _ hk => hk.elim) _ _ (hh.rd0 11 rfl) _ _ _ _ (hh.rd0 0 rfl) _ hr22) (fun x23 => ?_)
      refine JD_take (i := 12) hp18 rfl (by kernel_rfl) (by kernel_rfl) (by kernel_rfl) (wants_none rfl) rfl (ex_assign rfl) ?_
      refine JD_take (i := 13) hp18 rfl (by kernel_rfl) (by kernel_rfl) (by kernel_rfl) (wants_none rfl) rfl (ex_assign rfl) ?_
      refine JD_done (by kernel_rfl) ?_
      refine N_then ?_
      refine J_ret ?_
      exact N_ret2 rfl (rv_tmp rfl) (rv_tmp rfl) (fun w hh => ⟨x23, rfl, hh.sel [0] rfl⟩)

set_option maxHeartbeats 40000000 in
theorem c_spec_l10Key (A : Nat → Prop) (w : World) (hA : ∀ k, A k → k < w.heap.size) (v0_ : Value) (p0 : (List Int)) (hp0 : Rd A w v0_ p0) (r : ByteArray) (hr : F_spec_l10Key p0 = some r) :
    Con Try.prog 45 [v0_] A w (fun x_ : Unit => .string r) (fun x_ => []) := by
  refine Con_of (v := fun (r : ByteArray) (x_ : Unit) => .string r) (fs := fun r x_ => []) Try.func45 rfl Try.ntmps45 rfl ((SH.start hA).start_rd rfl hp0) rfl ?_ hr
  unfold F_spec_l10Key
  refine J_seq ?_
  refine J_region ?_
  refine JL_q (wants_none rfl) rfl (ex_assign rfl) ?_
  refine JL_nil ?_
  refine N_then ?_
  refine J_seq ?_
  refine J_region ?_
  refine JL_q (wants_none rfl) rfl (ex_move rfl) ?_
  refine JL_q (wants_none rfl) rfl (ex_len_rd 0 Try.underlying25 rfl rfl) ?_
  refine JL_bnd fun z1 hz2 => ?_
  refine JL_st (wants_none rfl) rfl (st_make (α := (Ik .u8)) Try.underlying22 ti_5 zi_5 bi_5 rfl (fun _ _ => zero_ik) rfl hz2) (fun b3 => ?_)
  refine JL_q (wants_none rfl) rfl (ex_assign rfl) ?_
  refine JL_nil ?_
  refine N_then ?_
  refine J_seq ?_
  refine J_seq ?_
  refine J_region ?_
  refine JL_q (wants_none rfl) rfl (ex_assign rfl) ?_
  refine JL_nil ?_
  refine N_then ?_
  refine J_loop' (S := (List (Ik .u8)) × Int) (G := Unit) (F_spec_l10Key_L1 p0) (fun s4 _ => [(0, v0_), (3, (.slice (some ⟨b3, 0, none⟩) z1.length z1.length)), (4, .int .i64 s4.2)]) (fun s4 _ => [.rd v0_ p0, .ow 5 (.slice (some ⟨b3, 0, none⟩) z1.length z1.length) s4.1]) (z1, 0) () ⟨rfl, rfl, rfl, trivial⟩ [1, 0] rfl rfl (fun s4 g5 => ?_) (fun s4 g5 => ?_)
  · unfold F_spec_l10Key_L1
    refine J_seq ?_
    refine J_seq ?_
    refine J_region ?_
    refine JL_q (wants_none rfl) rfl (ex_move rfl) ?_
    refine JL_q (wants_none rfl) rfl (ex_move rfl) ?_
    refine JL_q (wants_none rfl) rfl (ex_len_rd 0 Try.underlying25 rfl rfl) ?_
    refine JL_q (wants_none rfl) rfl (ex_lss rfl rfl) ?_
    refine JL_nil ?_
    refine N_then ?_
    refine J_if rfl (fun h6 => ?_) (fun h6 => ?_)
    · refine J_skip ?_
      refine N_then ?_
      refine J_seq ?_
      refine J_block ?_
      refine J_region ?_
      refine JL_q (wants_none rfl) rfl (ex_move rfl) ?_
      refine JL_q (wants_none rfl) rfl (ex_move rfl) ?_
      refine JL_q (wants_none rfl) rfl (ex_move rfl) ?_
      refine JL_q (wants_none rfl) rfl (ex_move rfl) ?_
      refine JL_bnd fun y7 hy8 => ?_
      refine JL_st (wants_none rfl) rfl (st_index 0 Try.underlying25 ti_2 rfl rfl rfl hy8) (fun q9 => ?_)
      refine JL_st (wants_none rfl) rfl (st_load_pt_o 0 (opens_int _) ti_2 rfl rfl) (fun _ => ?_)
      refine JL_q (wants_none rfl) rfl (ex_conv_ik Try.underlying2 Try.underlying5 rfl) ?_
      refine JL_bnd fun y11 hy12 => ?_
      refine JL_q (wants_none rfl) rfl (ex_index_ow 2 Try.underlying22 ti_5 rfl rfl rfl hy12) ?_
      refine JL_sk (wants_none rfl) (sk_store_ow 2 ti_5 rfl rfl rfl hy12 (fun w hh => (Rd.mk_ik _ _ _))) ?_
      refine JL_nil ?_
      refine N_block ?_
      refine N_then ?_
      refine J_region ?_
      refine JL_q (wants_none rfl) rfl (ex_move rfl) ?_
      refine JL_q (wants_none rfl) rfl (ex_add rfl rfl) ?_
      refine JL_q (wants_none rfl) rfl (ex_assign rfl) ?_
      refine JL_nil ?_
      exact N_next' () ⟨rfl, rfl, rfl, trivial⟩ [1, 2] rfl rfl
    · refine J_exit ?_
      refine N_then_exit ?_
      exact N_break' () ⟨rfl, rfl, rfl, trivial⟩ [0, 1] rfl rfl
  · refine N_then ?_
    refine J_seq ?_
    refine J_region ?_
    refine JL_q (wants_none rfl) rfl (ex_move rfl) ?_
    refine JL_q (wants_none rfl) rfl (ex_str Try.underlying22 Try.underlying5 Try.underlying9 rfl (fun w hh => (hh.ow0 1 rfl))) ?_
    refine JL_q (wants_none rfl) rfl (ex_assign rfl) ?_
    refine JL_nil ?_
    refine N_then ?_
    refine J_ret ?_
    exact N_ret1 rfl (rv_tmp rfl) (fun w hh => ⟨(), rfl, hh.sel [] rfl⟩)

set_option maxHeartbeats 40000000 in
theorem c_spec_l10Next (A : Nat → Prop) (w : World) (hA : ∀ k, A k → k < w.heap.size) (v0_ : Value) (p0 : (List GRewrite)) (hp0 : Rd A w v0_ p0) (v1_ : Value) (p1 : (List Int)) (hp1 : Rd A w v1_ p1) (r : (List (List Int)) × (List (List Int)) × Bool) (hr : F_spec_l10Next p0 p1 = some r) :
    Con Try.prog 18 [v0_, v1_] A w (fun x_ : Value × List Nat × Value × List Nat => .tuple #[x_.1, x_.2.2.1, .bool r.2.2]) (fun x_ => [.od 25 x_.1 r.1 x_.2.1, .od 25 x_.2.2.1 r.2.1 x_.2.2.2]) := by
  refine Con_of (v := fun (r : (List (List Int)) × (List (List Int)) × Bool) (x_ : Value × List Nat × Value × List Nat) => .tuple #[x_.1, x_.2.2.1, .bool r.2.2]) (fs := fun r x_ => [.od 25 x_.1 r.1 x_.2.1, .od 25 x_.2.2.1 r.2.1 x_.2.2.2]) Try.func18 rfl Try.ntmps18 rfl (((SH.start hA).start_rd rfl hp0).start_rd rfl hp1) rfl ?_ hr
  unfold F_spec_l10Next
  refine J_seq ?_
  refine J_region ?_
  refine JL_q (wants_none rfl) rfl (ex_assign rfl) ?_
  refine JL_q (wants_none rfl) rfl (ex_assign rfl) ?_
  refine JL_q (wants_none rfl) rfl (ex_assign rfl) ?_
  refine JL_nil ?_
  refine N_then ?_
  refine J_seq ?_
  refine J_region ?_
  refine JL_st (wants_none rfl) rfl (st_buildSlice_od (vs := []) (B := ([] : List Nat)) ([] : List (List Int)) [] Try.underlying26 ti_25 zi_25 rfl rfl rfl rfl rfl (fun w hh => dwv_nil)) (fun b1 => ?_)
  refine JL_q (wants_none rfl) rfl (ex_assign rfl) ?_
  refine JL_nil ?_
  refine N_then ?_
  refine J_seq ?_
  refine J_region ?_
  refine JL_st (wants_none rfl) rfl (st_buildSlice_od (vs := []) (B := ([] : List Nat)) ([] : List (List Int)) [] Try.underlying26 ti_25 zi_25 rfl rfl rfl rfl rfl (fun w hh => dwv_nil)) (fun b2 => ?_)
  refine JL_q (wants_none rfl) rfl (ex_assign rfl) ?_
  refine JL_nil ?_
  refine N_then ?_
  refine J_seq ?_
  refine J_region ?_
  refine JL_q (wants_none rfl) rfl (ex_assign rfl) ?_
  refine JL_nil ?_
  refine N_then ?_
  refine J_seq ?_
  refine J_region ?_
  refine JL_st (wants_none rfl) rfl (st_buildSlice (vs := []) ([] : List ByteArray) Try.underlying72 ti_9 zi_9 rfl rfl rfl (fun w hh => trivial)) (fun b3 => ?_)
  refine JL_q (wants_none rfl) rfl (ex_assign rfl) ?_
  refine JL_nil ?_
  refine N_then ?_
  refine J_seq ?_
  refine J_seq ?_
  refine J_region ?_
  refine JL_q (wants_none rfl) rfl (ex_assign rfl) ?_
  refine JL_nil ?_
  refine N_then ?_
  refine J_loop' (S := (List (List Int)) × (List (List Int)) × Bool × (List ByteArray) × Int) (G := Value × List Nat × Value × List Nat × Value) (F_spec_l10Next_L1 p0 p1) (fun s4 g5 => [(0, v0_), (1, v1_), (7, g5.1), (8, g5.2.2.1), (9, .bool s4.2.2.1), (10, g5.2.2.2.2), (11, .int .i64 s4.2.2.2.2)]) (fun s4 g5 => [.rd v0_ p0, .rd v1_ p1, .od 25 g5.1 s4.1 g5.2.1, .od 25 g5.2.2.1 s4.2.1 g5.2.2.2.1, .ow 9 g5.2.2.2.2 s4.2.2.2.1]) (([] : List (List Int)), ([] : List (List Int)), true, ([] : List ByteArray), 0) ((.slice (some ⟨b1, 0, none⟩) 0 0), ([] : List Nat), (.slice (some ⟨b2, 0, none⟩) 0 0), ([] : List Nat), (.slice (some ⟨b3, 0, none⟩) 0 0)) ⟨rfl, rfl, rfl, rfl, rfl, rfl, rfl, trivial⟩ [4, 3, 2, 1, 0] rfl rfl (fun s4 g5 => ?_) (fun s4 g5 => ?_)
  · obtain ⟨g5_0, g5_1, g5_2, g5_3, g5_4⟩ := g5
    unfold F_spec_l10Next_L1
    refine J_seq ?_
    refine J_seq ?_
    refine J_region ?_
    refine JL_q (wants_none rfl) rfl (ex_move rfl) ?_
    refine JL_q (wants_none rfl) rfl (ex_move rfl) ?_
    refine JL_q (wants_none rfl) rfl (ex_len_rd 0 Try.underlying24 rfl rfl) ?_
    refine JL_q (wants_none rfl) rfl (ex_lss rfl rfl) ?_
    refine JL_nil ?_
    refine N_then ?_
    refine J_if rfl (fun h6 => ?_) (fun h6 => ?_)
    · refine J_skip ?_
      refine N_then ?_
      refine J_seq ?_
      refine J_block ?_
      refine J_seq ?_
      refine J_region ?_
      refine JL_q (wants_none rfl) rfl (ex_assign rfl) ?_
      refine JL_nil ?_
      refine N_then ?_
      refine J_loop' (S := (List (List Int)) × (List (List Int)) × Bool × (List ByteArray) × Int) (G := Value × List Nat × Value × List Nat × Value) (F_spec_l10Next_L2 p0 p1 s4) (fun s7 g8 => [(0, v0_), (1, v1_), (7, g8.1), (8, g8.2.2.1), (9, .bool s7.2.2.1), (10, g8.2.2.2.2), (11, .int .i64 s4.2.2.2.2), (12, .int .i64 s7.2.2.2.2)]) (fun s7 g8 => [.rd v0_ p0, .rd v1_ p1, .od 25 g8.1 s7.1 g8.2.1, .od 25 g8.2.2.1 s7.2.1 g8.2.2.2.1, .ow 9 g8.2.2.2.2 s7.2.2.2.1]) (s4.1, s4.2.1, s4.2.2.1, s4.2.2.2.1, 0) (g5_0, g5_1, g5_2, g5_3, g5_4) ⟨rfl, rfl, rfl, rfl, rfl, rfl, rfl, rfl, trivial⟩ [0, 1, 2, 3, 4] rfl rfl (fun s7 g8 => ?_) (fun s7 g8 => ?_)
      · obtain ⟨g8_0, g8_1, g8_2, g8_3, g8_4⟩ := g8
        unfold F_spec_l10Next_L2
        refine J_seq ?_
        refine J_seq ?_
        refine J_region ?_
        refine JL_q (wants_none rfl) rfl (ex_move rfl) ?_
        refine JL_q (wants_none rfl) rfl (ex_move rfl) ?_
        refine JL_q (wants_none rfl) rfl (ex_len_rd 1 Try.underlying25 rfl rfl) ?_
        refine JL_q (wants_none rfl) rfl (ex_leq rfl rfl) ?_
        refine JL_nil ?_
        refine N_then ?_
        refine J_if rfl (fun h9 => ?_) (fun h9 => ?_)
        · refine J_skip ?_
          refine N_then ?_
          refine J_seq ?_
          refine J_block ?_
          refine J_seq ?_
          refine J_region ?_
          refine JL_q (wants_none rfl) rfl (ex_move rfl) ?_
          refine JL_q (wants_none rfl) rfl (ex_move rfl) ?_
          refine JL_q (wants_none rfl) rfl (ex_move rfl) ?_
          refine JL_q (wants_none rfl) rfl (ex_move rfl) ?_
          refine JL_bnd fun r10 hr11 => ?_
          refine JL_call (wants_none rfl) rfl Try.call43 rfl (Ca_self (fun _ => rfl) fun w hh => c_spec_l10Apply _ w (fun _ hk => hk.elim) _ _ (hh.rd0 0 rfl) _ _ (hh.rd0 1 rfl) _ _ _ hr11) (fun x12 => ?_)
          refine JL_q (wants_none rfl) rfl (ex_move rfl) ?_
          refine JL_q (wants_none rfl) rfl (ex_extract rfl rfl) ?_
          refine JL_q (wants_none rfl) rfl (ex_extract rfl rfl) ?_
          refine JL_q (wants_none rfl) rfl (ex_assign rfl) ?_
          refine JL_q (wants_none rfl) rfl (ex_assign rfl) ?_
          refine JL_nil ?_
          refine N_then ?_
          refine J_seq ?_
          refine J_cut' (S' := Bool) (G' := Unit) (fun s13 _ => [(0, v0_), (1, v1_), (7, g8_0), (8, g8_2), (9, .bool s13), (10, g8_4), (11, .int .i64 s4.2.2.2.2), (12, .int .i64 s7.2.2.2.2), (13, x12), (14, .int .i64 r10.2)]) (fun s13 _ => [.rd v0_ p0, .rd v1_ p1, .od 25 g8_0 s7.1 g8_1, .od 25 g8_2 s7.2.1 g8_3, .ow 9 g8_4 s7.2.2.2.1, .ow 2 x12 r10.1]) ?_ (fun s13 g14 => ?_)
          · refine J_seq ?_
            refine J_region ?_
            refine JL_q (wants_none rfl) rfl (ex_move rfl) ?_
            refine JL_q (wants_none rfl) rfl (ex_eql rfl rfl) ?_
            refine JL_nil ?_
            refine N_then ?_
            refine J_if rfl (fun h15 => ?_) (fun h15 => ?_)
            · refine J_region ?_
              refine JL_q (wants_none rfl) rfl (ex_assign rfl) ?_
              refine JL_nil ?_
              exact N_meet' () ⟨rfl, rfl, rfl, rfl, rfl, rfl, rfl, rfl, rfl, rfl, trivial⟩ [1, 2, 3, 4, 5, 0] rfl rfl
            · refine J_skip ?_
              exact N_meet' () ⟨rfl, rfl, rfl, rfl, rfl, rfl, rfl, rfl, rfl, rfl, trivial⟩ [1, 2, 3, 4, 5, 0] rfl rfl
          · refine N_then ?_
            refine J_seq ?_
            refine J_seq ?_
            refine J_region ?_
            refine JL_q (wants_none rfl) rfl (ex_move rfl) ?_
            refine JL_q (wants_none rfl) rfl (ex_neq rfl rfl) ?_
            refine JL_nil ?_
            refine N_then ?_
            refine J_if rfl (fun h16 => ?_) (fun h16 => ?_)
            · refine J_exit ?_
              refine N_then_exit ?_
              refine N_block_exit ?_
              refine N_then ?_
              refine J_region ?_
              refine JL_q (wants_none rfl) rfl (ex_move rfl) ?_
              refine JL_q (wants_none rfl) rfl (ex_add rfl rfl) ?_
              refine JL_q (wants_none rfl) rfl (ex_assign rfl) ?_
              refine JL_nil ?_
              exact N_next' (g8_0, g8_1, g8_2, g8_3, g8_4) ⟨rfl, rfl, rfl, rfl, rfl, rfl, rfl, rfl, trivial⟩ [0, 1, 2, 3, 4] rfl rfl
            · refine J_skip ?_
              refine N_then ?_
              refine J_seq ?_
              refine J_region ?_
              refine JL_q (wants_none rfl) rfl (ex_move rfl) ?_
              refine JL_q (wants_none rfl) rfl (ex_move rfl) ?_
              refine JL_bnd fun r17 hr18 => ?_
              refine JL_call (wants_none rfl) rfl Try.call45 rfl (Ca_of0 fun w hh => c_spec_l10Key _ w (fun _ hk => hk.elim) _ _ (hh.ow0 5 rfl) _ hr18) (fun _ => ?_)
              refine JL_inline (wants_none rfl) rfl Try.call44 rfl Try.func44 rfl Try.ntmps44 rfl rfl (fun K_ hK19 => ?_)
              refine J_seq ?_
              refine J_region ?_
              refine JL_q (wants_none rfl) rfl (ex_assign rfl) ?_
              refine JL_q (wants_none rfl) rfl (ex_assign rfl) ?_
              refine JL_nil ?_
              refine N_then ?_
              refine J_seq ?_
              refine J_region ?_
              refine JL_q (wants_none rfl) rfl (ex_assign rfl) ?_
              refine JL_nil ?_
              refine N_then ?_
              refine J_seq ?_
              refine J_region ?_
              refine JL_q (wants_none rfl) rfl (ex_move rfl) ?_
              refine JL_q (wants_none rfl) rfl (ex_len_ow 4 Try.underlying72 rfl rfl) ?_
              refine JL_q (wants_none rfl) rfl (ex_assign rfl) ?_
              refine JL_nil ?_
              refine N_then ?_
              refine J_seq ?_
              refine J_loop' (S := Int × Int) (G := Unit) (F_spec_l10Next_L3 s7 r17) (fun s20 _ => [(0, g8_4), (1, .string r17), (6, .int .i64 s20.1), (7, .int .i64 s20.2)]) (fun s20 _ => [.ow 9 g8_4 s7.2.2.2.1, .rd v0_ p0, .rd v1_ p1, .od 25 g8_0 s7.1 g8_1, .od 25 g8_2 s7.2.1 g8_3, .ow 2 x12 r10.1]) (0, (s7.2.2.2.1.length : Int)) () ⟨rfl, rfl, rfl, rfl, trivial⟩ [4, 0, 1, 2, 3, 5] rfl rfl (fun s20 g21 => ?_) (fun s20 g21 => ?_)
              · unfold F_spec_l10Next_L3
                refine J_seq ?_
                refine J_seq ?_
                refine J_region ?_
                refine JL_q (wants_none rfl) rfl (ex_move rfl) ?_
                refine JL_q (wants_none rfl) rfl (ex_move rfl) ?_
                refine JL_q (wants_none rfl) rfl (ex_lss rfl rfl) ?_
                refine JL_nil ?_
                refine N_then ?_
                refine J_if rfl (fun h22 => ?_) (fun h22 => ?_)
                · refine J_skip ?_
                  refine N_then ?_
                  refine J_block ?_
                  refine J_seq ?_
                  refine J_region ?_
                  refine JL_q (wants_none rfl) rfl (ex_move rfl) ?_
                  refine JL_q (wants_none rfl) rfl (ex_move rfl) ?_
                  refine JL_q (wants_none rfl) rfl (ex_add rfl rfl) ?_
                  refine JL_q (wants_none rfl) rfl (ex_quo rfl rfl (by decide)) ?_
                  refine JL_q (wants_none rfl) rfl (ex_assign rfl) ?_
                  refine JL_nil ?_
                  refine N_then ?_
                  refine J_seq ?_
                  refine J_region ?_
                  refine JL_q (wants_none rfl) rfl (ex_move rfl) ?_
                  refine JL_q (wants_none rfl) rfl (ex_move rfl) ?_
                  refine JL_bnd fun y23 hy24 => ?_
                  refine JL_ow_open (v := g8_4) 0 rfl hy24 ?_; rintro b25 cap26 rfl
                  refine JL_q (wants_none rfl) rfl (ex_index_ow 0 Try.underlying72 ti_9 rfl rfl rfl hy24) ?_
                  refine JL_st (wants_none rfl) rfl (st_load_ow_o 0 (opens_str _) ti_9 rfl rfl hy24) (fun _ => ?_)
                  refine JL_q (wants_none rfl) rfl (ex_move rfl) ?_
                  refine JL_q (wants_none rfl) rfl (ex_lss_str rfl rfl) ?_
                  refine JL_nil ?_
                  refine N_then ?_
                  refine J_if rfl (fun h28 => ?_) (fun h28 => ?_)
                  · refine J_region ?_
                    refine JL_q (wants_none rfl) rfl (ex_move rfl) ?_
                    refine JL_q (wants_none rfl) rfl (ex_add rfl rfl) ?_
                    refine JL_q (wants_none rfl) rfl (ex_assign rfl) ?_
                    refine JL_nil ?_
                    refine N_block ?_
                    exact N_next' () ⟨rfl, rfl, rfl, rfl, trivial⟩ [0, 1, 2, 3, 4, 5] rfl rfl
                  · refine J_region ?_
                    refine JL_q (wants_none rfl) rfl (ex_move rfl) ?_
                    refine JL_q (wants_none rfl) rfl (ex_assign rfl) ?_
                    refine JL_nil ?_
                    refine N_block ?_
                    exact N_next' () ⟨rfl, rfl, rfl, rfl, trivial⟩ [0, 1, 2, 3, 4, 5] rfl rfl
                · refine J_exit ?_
                  refine N_then_exit ?_
                  exact N_break' () ⟨rfl, rfl, rfl, rfl, trivial⟩ [0, 1, 2, 3, 4, 5] rfl rfl
              · refine N_then ?_
                refine J_seq ?_
                refine J_cut' (S' := Unit) (G' := Unit) (fun _ _ => [(0, g8_4), (1, .string r17), (6, .int .i64 s20.1)]) (fun _ _ => [.ow 9 g8_4 s7.2.2.2.1, .rd v0_ p0, .rd v1_ p1, .od 25 g8_0 s7.1 g8_1, .od 25 g8_2 s7.2.1 g8_3, .ow 2 x12 r10.1]) ?_ (fun s29 g30 => ?_)
                · refine J_seq ?_
                  refine J_region ?_
                  refine JL_q (wants_none rfl) rfl (ex_move rfl) ?_
                  refine JL_q (wants_none rfl) rfl (ex_move rfl) ?_
                  refine JL_q (wants_none rfl) rfl (ex_len_ow 0 Try.underlying72 rfl rfl) ?_
                  refine JL_q (wants_none rfl) rfl (ex_lss rfl rfl) ?_
                  refine JL_q (wants_none rfl) rfl (ex_move rfl) ?_
                  refine JL_cond (fun h31 => ?_) (fun h31 => ?_)
                  · refine JL_q (wants_some rfl rfl rfl h31) rfl (ex_move rfl) ?_
                    refine JL_q (wants_some rfl rfl rfl h31) rfl (ex_move rfl) ?_
                    refine JL_bnd fun y32 hy33 => ?_
                    refine JL_ow_open (v := g8_4) 0 rfl hy33 ?_; rintro b34 cap35 rfl
                    refine JL_q (wants_some rfl rfl rfl h31) rfl (ex_index_ow 0 Try.underlying72 ti_9 rfl rfl rfl hy33) ?_
                    refine JL_st (wants_some rfl rfl rfl h31) rfl (st_load_ow_o 0 (opens_str _) ti_9 rfl rfl hy33) (fun _ => ?_)
                    refine JL_q (wants_some rfl rfl rfl h31) rfl (ex_move rfl) ?_
                    refine JL_q (wants_some rfl rfl rfl h31) rfl (ex_eql_str rfl rfl) ?_
                    refine JL_q (wants_none rfl) rfl (ex_pick_true rfl h31 rfl) ?_
                    refine JL_nil ?_
                    refine N_then ?_
                    refine J_if rfl (fun h37 => ?_) (fun h37 => ?_)
                    · refine J_seq ?_
                      refine J_region ?_
                      refine JL_q (wants_none rfl) rfl (ex_move rfl) ?_
                      refine JL_q (wants_none rfl) rfl (ex_assign rfl) ?_
                      refine JL_q (wants_none rfl) rfl (ex_assign rfl) ?_
                      refine JL_nil ?_
                      refine N_then ?_
                      refine J_ret ?_
                      refine N_mid_reti ?_
                      refine N_then_ret ?_
                      refine N_inl2 hK19 rfl (rv_tmp rfl) (rv_tmp rfl) ?_
                      refine JL_q (wants_none rfl) rfl (ex_move rfl) ?_
                      refine JL_q (wants_none rfl) rfl (ex_extract rfl rfl) ?_
                      refine JL_q (wants_none rfl) rfl (ex_extract rfl rfl) ?_
                      refine JL_q (wants_none rfl) rfl (ex_assign rfl) ?_
                      refine JL_q (wants_none rfl) rfl (ex_assign rfl) ?_
                      refine JL_nil ?_
                      refine N_then ?_
                      refine J_seq ?_
                      refine J_region ?_
                      refine JL_q (wants_none rfl) rfl (ex_move rfl) ?_
                      refine JL_q (wants_none rfl) rfl (ex_assign rfl) ?_
                      refine JL_nil ?_
                      refine N_then ?_
                      refine J_seq ?_
                      refine J_region ?_
                      refine JL_q (wants_none rfl) rfl (ex_move rfl) ?_
                      refine JL_nil ?_
                      refine N_then ?_
                      refine J_if_false rfl rfl ?_
                      refine J_skip ?_
                      refine N_block ?_
                      refine N_then ?_
                      refine J_region ?_
                      refine JL_q (wants_none rfl) rfl (ex_move rfl) ?_
                      refine JL_q (wants_none rfl) rfl (ex_add rfl rfl) ?_
                      refine JL_q (wants_none rfl) rfl (ex_assign rfl) ?_
                      refine JL_nil ?_
                      exact N_next' (g8_0, g8_1, g8_2, g8_3, (.slice (some ⟨b34, 0, none⟩) s7.2.2.2.1.length cap35)) ⟨rfl, rfl, rfl, rfl, rfl, rfl, rfl, rfl, trivial⟩ [1, 2, 3, 4, 0] rfl rfl
                    · refine J_skip ?_
                      exact N_meet' () ⟨rfl, rfl, rfl, trivial⟩ [0, 1, 2, 3, 4, 5] rfl rfl
                  · refine JL_passed rfl rfl rfl h31 ?_
                    refine JL_passed rfl rfl rfl h31 ?_
                    refine JL_passed rfl rfl rfl h31 ?_
                    refine JL_passed rfl rfl rfl h31 ?_
                    refine JL_passed rfl rfl rfl h31 ?_
                    refine JL_passed rfl rfl rfl h31 ?_
                    refine JL_q (wants_none rfl) rfl (ex_pick_false rfl h31 rfl) ?_
                    refine JL_nil ?_
                    refine N_then ?_
                    refine J_if_false rfl rfl ?_
                    refine J_skip ?_
                    exact N_meet' () ⟨rfl, rfl, rfl, trivial⟩ [0, 1, 2, 3, 4, 5] rfl rfl
                · refine N_then ?_
                  refine J_seq ?_
                  refine J_region ?_
                  refine JL_q (wants_none rfl) rfl (ex_move rfl) ?_
                  refine JL_st (wants_none rfl) rfl (st_buildSlice (vs := [.string (⟨#[]⟩ : ByteArray)]) ([(⟨#[]⟩ : ByteArray)] : List ByteArray) Try.underlying72 ti_9 zi_9 rfl rfl rfl (fun w hh => ⟨(Rd.mk_str _ _ _), trivial⟩)) (fun b38 => ?_)
                  refine JL_bnd fun z39 hz40 => ?_
                  refine JL_st (wants_none rfl) rfl (st_append 1 Try.underlying72 ti_9 zi_9 rfl bi_9 rfl rfl rfl rfl (fun w hh => hh.src_ow 0 rfl) hz40) (fun v41 => ?_)
                  refine JL_q (wants_none rfl) rfl (ex_assign rfl) ?_
                  refine JL_nil ?_
                  refine N_then ?_
                  refine J_seq ?_
                  refine J_draw [1] (by kernel_rfl) ?_
                  refine JP_take (i := 0) [0, 2, 3, 4, 5, 6] [1] rfl (by kernel_rfl) (by kernel_rfl) (by kernel_rfl) rfl rfl (wants_none rfl) rfl (ex_move rfl) ?_
                  refine JP_take (i := 1) [0, 2, 3, 4, 5, 6] [1] rfl (by kernel_rfl) (by kernel_rfl) (by kernel_rfl) rfl rfl (wants_none rfl) rfl (ex_move rfl) ?_
                  refine JP_take (i := 2) [0, 2, 3, 4, 5, 6] [1] rfl (by kernel_rfl) (by kernel_rfl) (by kernel_rfl) rfl rfl (wants_none rfl) rfl (ex_add rfl rfl) ?_
                  refine JP_take (i := 4) [0, 2, 3, 4, 5, 6] [1] rfl (by kernel_rfl) (by kernel_rfl) (by kernel_rfl) rfl rfl (wants_none rfl) rfl (ex_move rfl) ?_
                  refine JP_take (i := 5) [0, 2, 3, 4, 5, 6] [1] rfl (by kernel_rfl) (by kernel_rfl) (by kernel_rfl) rfl rfl (wants_none rfl) rfl (ex_move rfl) ?_
                  refine JP_go [0, 2, 3, 4, 5, 6] [1] rfl rfl rfl (fun w43 h1_44 hp42 => ?_)
                  refine JD_bnd fun z45 hz46 => ?_
                  refine JD_bnd fun z47 hz48 => ?_
                  refine JD_two (i := 3) (j := 6) (by kernel_rfl) ?_ ?_
                  · refine JO_q rfl (wants_none rfl) rfl (ex_slice_ow 1 Try.underlying72 ti_9 rfl rfl rfl rfl hz46) ?_
                    refine JD_one (i := 6) (by kernel_rfl) ?_
                    refine JO_q rfl (wants_none rfl) rfl (ex_slice_ow 1 Try.underlying72 ti_9 rfl rfl rfl rfl hz48) ?_
                    refine JD_one (i := 7) (by kernel_rfl) ?_
                    refine JO_st rfl (wants_none rfl) rfl (st_copy_at 1 rfl Try.underlying72 ti_9 rfl rfl rfl hz46 (fun w hh => hh.src_own 1 rfl hz48)) (sub_ow 0 rfl) (fun _ => ?_)
                    refine JD_done (by kernel_rfl) ?_
                    refine N_then ?_
                    refine J_seq ?_
                    refine J_region ?_
                    refine JL_q (wants_none rfl) rfl (ex_move rfl) ?_
                    refine JL_q (wants_none rfl) rfl (ex_move rfl) ?_
                    refine JL_q (wants_none rfl) rfl (ex_move rfl) ?_
                    refine JL_bnd fun y49 hy50 => ?_
                    refine JL_ow_open (v := v41) 1 rfl hy50 ?_; rintro b51 cap52 rfl
                    refine JL_q (wants_none rfl) rfl (ex_index_ow 1 Try.underlying72 ti_9 rfl rfl rfl hy50) ?_
                    refine JL_sk (wants_none rfl) (sk_store_ow 1 ti_9 rfl rfl rfl hy50 (fun w hh => (Rd.mk_str _ _ _))) ?_
                    refine JL_nil ?_
                    refine N_then ?_
                    refine J_seq ?_
                    refine J_region ?_
                    refine JL_q (wants_none rfl) rfl (ex_move rfl) ?_
                    refine JL_q (wants_none rfl) rfl (ex_assign rfl) ?_
                    refine JL_q (wants_none rfl) rfl (ex_assign rfl) ?_
                    refine JL_nil ?_
                    refine N_then ?_
                    refine J_ret ?_
                    refine N_inl2 hK19 rfl (rv_tmp rfl) (rv_tmp rfl) ?_
                    refine JL_q (wants_none rfl) rfl (ex_move rfl) ?_
                    refine JL_q (wants_none rfl) rfl (ex_extract rfl rfl) ?_
                    refine JL_q (wants_none rfl) rfl (ex_extract rfl rfl) ?_
                    refine JL_q (wants_none rfl) rfl (ex_assign rfl) ?_
                    refine JL_q (wants_none rfl) rfl (ex_assign rfl) ?_
                    refine JL_nil ?_
                    refine N_then ?_
                    refine J_seq ?_
                    refine J_region ?_
                    refine JL_q (wants_none rfl) rfl (ex_move rfl) ?_
                    refine JL_q (wants_none rfl) rfl (ex_assign rfl) ?_
                    refine JL_nil ?_
                    refine N_then ?_
                    refine J_seq ?_
                    refine J_region ?_
                    refine JL_q (wants_none rfl) rfl (ex_move rfl) ?_
                    refine JL_nil ?_
                    refine N_then ?_
                    refine J_if_true rfl rfl ?_
                    refine J_seq ?_
                    refine J_region ?_
                    refine JL_q (wants_none rfl) rfl (ex_move rfl) ?_
                    refine JL_q (wants_none rfl) rfl (ex_move rfl) ?_
                    refine JL_ctx (fun w hh => hh.tokf 6 rfl rfl) ?_
                    refine JL_st (wants_none rfl) rfl (st_buildSlice_od (vs := [x12]) (B := (((x12 : Value).ownBlock.toList ++ []) ++ [])) ([r10.1] : List (List Int)) [0] Try.underlying26 ti_25 zi_25 rfl rfl rfl rfl rfl (fun w hh => (dwv_cons (hh.dw 0 rfl) dwv_nil))) (fun b53 => ?_)
                    refine JL_bnd fun z54 hz55 => ?_
                    refine JL_st (wants_none rfl) rfl (st_append_od 6 0 Try.underlying26 ti_25 zi_25 rfl bi_25 rfl rfl rfl rfl rfl rfl hz55) (fun v56 => ?_)
                    refine JL_q (wants_none rfl) rfl (ex_assign rfl) ?_
                    refine JL_nil ?_
                    refine N_then ?_
                    refine J_region ?_
                    refine JL_q (wants_none rfl) rfl (ex_move rfl) ?_
                    refine JL_q (wants_none rfl) rfl (ex_move rfl) ?_
                    refine JL_q (wants_none rfl) rfl (ex_move rfl) ?_
                    refine JL_st (wants_none rfl) rfl (st_buildSlice (vs := [.int .i64 s4.2.2.2.2, .int .i64 s7.2.2.2.2]) ([s4.2.2.2.2, s7.2.2.2.2] : List Int) Try.underlying25 ti_2 zi_2 rfl rfl rfl (fun w hh => ⟨(Rd.mk_int _ _ _), (Rd.mk_int _ _ _), trivial⟩)) (fun b57 => ?_)
                    refine JL_ctx (fun w hh => hh.tokf 0 rfl rfl) ?_
                    refine JL_st (wants_none rfl) rfl (st_buildSlice_od (vs := [(.slice (some ⟨b57, 0, none⟩) 2 2)]) (B := ((((.slice (some ⟨b57, 0, none⟩) 2 2) : Value).ownBlock.toList ++ []) ++ [])) ([([s4.2.2.2.2, s7.2.2.2.2] : List Int)] : List (List Int)) [0] Try.underlying26 ti_25 zi_25 rfl rfl rfl rfl rfl (fun w hh => (dwv_cons (hh.dw 0 rfl) dwv_nil))) (fun b58 => ?_)
                    refine JL_bnd fun z59 hz60 => ?_
                    refine JL_st (wants_none rfl) rfl (st_append_od 10 0 Try.underlying26 ti_25 zi_25 rfl bi_25 rfl rfl rfl rfl rfl rfl hz60) (fun v61 => ?_)
                    refine JL_q (wants_none rfl) rfl (ex_assign rfl) ?_
                    refine JL_nil ?_
                    refine N_block ?_
                    refine N_then ?_
                    refine J_region ?_
                    refine JL_q (wants_none rfl) rfl (ex_move rfl) ?_
                    refine JL_q (wants_none rfl) rfl (ex_add rfl rfl) ?_
                    refine JL_q (wants_none rfl) rfl (ex_assign rfl) ?_
                    refine JL_nil ?_
                    exact N_next' (v56, (g8_1 ++ (((x12 : Value).ownBlock.toList ++ []) ++ [])), v61, (g8_3 ++ ((((.slice (some ⟨b57, 0, none⟩) 2 2) : Value).ownBlock.toList ++ []) ++ [])), (.slice (some ⟨b51, 0, none⟩) (cpyAt z39 (w64 (s20.1 + 1)) (z39.length : Int) z47).length cap52)) ⟨rfl, rfl, rfl, rfl, rfl, rfl, rfl, rfl, trivial⟩ [7, 8, 9, 10, 6] rfl rfl
                  · refine JO_q rfl (wants_none rfl) rfl (ex_slice_ow 1 Try.underlying72 ti_9 rfl rfl rfl rfl hz48) ?_
                    refine JD_one (i := 3) (by kernel_rfl) ?_
                    refine JO_q rfl (wants_none rfl) rfl (ex_slice_ow 1 Try.underlying72 ti_9 rfl rfl rfl rfl hz46) ?_
                    refine JD_one (i := 7) (by kernel_rfl) ?_
                    refine JO_st rfl (wants_none rfl) rfl (st_copy_at 1 rfl Try.underlying72 ti_9 rfl rfl rfl hz46 (fun w hh => hh.src_own 1 rfl hz48)) (sub_ow 0 rfl) (fun _ => ?_)
                    refine JD_done (by kernel_rfl) ?_
                    refine N_then ?_
                    refine J_seq ?_
                    refine J_region ?_
                    refine JL_q (wants_none rfl) rfl (ex_move rfl) ?_
                    refine JL_q (wants_none rfl) rfl (ex_move rfl) ?_
                    refine JL_q (wants_none rfl) rfl (ex_move rfl) ?_
                    refine JL_bnd fun y62 hy63 => ?_
                    refine JL_ow_open (v := v41) 1 rfl hy63 ?_; rintro b64 cap65 rfl
                    refine JL_q (wants_none rfl) rfl (ex_index_ow 1 Try.underlying72 ti_9 rfl rfl rfl hy63) ?_
                    refine JL_sk (wants_none rfl) (sk_store_ow 1 ti_9 rfl rfl rfl hy63 (fun w hh => (Rd.mk_str _ _ _))) ?_
                    refine JL_nil ?_
                    refine N_then ?_
                    refine J_seq ?_
                    refine J_region ?_
                    refine JL_q (wants_none rfl) rfl (ex_move rfl) ?_
                    refine JL_q (wants_none rfl) rfl (ex_assign rfl) ?_
                    refine JL_q (wants_none rfl) rfl (ex_assign rfl) ?_
                    refine JL_nil ?_
                    refine N_then ?_
                    refine J_ret ?_
                    refine N_inl2 hK19 rfl (rv_tmp rfl) (rv_tmp rfl) ?_
                    refine JL_q (wants_none rfl) rfl (ex_move rfl) ?_
                    refine JL_q (wants_none rfl) rfl (ex_extract rfl rfl) ?_
                    refine JL_q (wants_none rfl) rfl (ex_extract rfl rfl) ?_
                    refine JL_q (wants_none rfl) rfl (ex_assign rfl) ?_
                    refine JL_q (wants_none rfl) rfl (ex_assign rfl) ?_
                    refine JL_nil ?_
                    refine N_then ?_
                    refine J_seq ?_
                    refine J_region ?_
                    refine JL_q (wants_none rfl) rfl (ex_move rfl) ?_
                    refine JL_q (wants_none rfl) rfl (ex_assign rfl) ?_
                    refine JL_nil ?_
                    refine N_then ?_
                    refine J_seq ?_
                    refine J_region ?_
                    refine JL_q (wants_none rfl) rfl (ex_move rfl) ?_
                    refine JL_nil ?_
                    refine N_then ?_
                    refine J_if_true rfl rfl ?_
                    refine J_seq ?_
                    refine J_region ?_
                    refine JL_q (wants_none rfl) rfl (ex_move rfl) ?_
                    refine JL_q (wants_none rfl) rfl (ex_move rfl) ?_
                    refine JL_ctx (fun w hh => hh.tokf 6 rfl rfl) ?_
                    refine JL_st (wants_none rfl) rfl (st_buildSlice_od (vs := [x12]) (B := (((x12 : Value).ownBlock.toList ++ []) ++ [])) ([r10.1] : List (List Int)) [0] Try.underlying26 ti_25 zi_25 rfl rfl rfl rfl rfl (fun w hh => (dwv_cons (hh.dw 0 rfl) dwv_nil))) (fun b66 => ?_)
                    refine JL_bnd fun z67 hz68 => ?_
                    refine JL_st (wants_none rfl) rfl (st_append_od 6 0 Try.underlying26 ti_25 zi_25 rfl bi_25 rfl rfl rfl rfl rfl rfl hz68) (fun v69 => ?_)
                    refine JL_q (wants_none rfl) rfl (ex_assign rfl) ?_
                    refine JL_nil ?_
                    refine N_then ?_
                    refine J_region ?_
                    refine JL_q (wants_none rfl) rfl (ex_move rfl) ?_
                    refine JL_q (wants_none rfl) rfl (ex_move rfl) ?_
                    refine JL_q (wants_none rfl) rfl (ex_move rfl) ?_
                    refine JL_st (wants_none rfl) rfl (st_buildSlice (vs := [.int .i64 s4.2.2.2.2, .int .i64 s7.2.2.2.2]) ([s4.2.2.2.2, s7.2.2.2.2] : List Int) Try.underlying25 ti_2 zi_2 rfl rfl rfl (fun w hh => ⟨(Rd.mk_int _ _ _), (Rd.mk_int _ _ _), trivial⟩)) (fun b70 => ?_)
                    refine JL_ctx (fun w hh => hh.tokf 0 rfl rfl) ?_
                    refine JL_st (wants_none rfl) rfl (st_buildSlice_od (vs := [(.slice (some ⟨b70, 0, none⟩) 2 2)]) (B := ((((.slice (some ⟨b70, 0, none⟩) 2 2) : Value).ownBlock.toList ++ []) ++ [])) ([([s4.2.2.2.2, s7.2.2.2.2] : List Int)] : List (List Int)) [0] Try.underlying26 ti_25 zi_25 rfl rfl rfl rfl rfl (fun w hh => (dwv_cons (hh.dw 0 rfl) dwv_nil))) (fun b71 => ?_)
                    refine JL_bnd fun z72 hz73 => ?_
                    refine JL_st (wants_none rfl) rfl (st_append_od 10 0 Try.underlying26 ti_25 zi_25 rfl bi_25 rfl rfl rfl rfl rfl rfl hz73) (fun v74 => ?_)
                    refine JL_q (wants_none rfl) rfl (ex_assign rfl) ?_
                    refine JL_nil ?_
                    refine N_block ?_
                    refine N_then ?_
                    refine J_region ?_
                    refine JL_q (wants_none rfl) rfl (ex_move rfl) ?_
                    refine JL_q (wants_none rfl) rfl (ex_add rfl rfl) ?_
                    refine JL_q (wants_none rfl) rfl (ex_assign rfl) ?_
                    refine JL_nil ?_
                    exact N_next' (v69, (g8_1 ++ (((x12 : Value).ownBlock.toList ++ []) ++ [])), v74, (g8_3 ++ ((((.slice (some ⟨b70, 0, none⟩) 2 2) : Value).ownBlock.toList ++ []) ++ [])), (.slice (some ⟨b64, 0, none⟩) (cpyAt z39 (w64 (s20.1 + 1)) (z39.length : Int) z47).length cap65)) ⟨rfl, rfl, rfl, rfl, rfl, rfl, rfl, rfl, trivial⟩ [7, 8, 9, 10, 6] rfl rfl
        · refine J_exit ?_
          refine N_then_exit ?_
          exact N_break' (g8_0, g8_1, g8_2, g8_3, g8_4) ⟨rfl, rfl, rfl, rfl, rfl, rfl, rfl, rfl, trivial⟩ [0, 1, 2, 3, 4] rfl rfl
      · obtain ⟨g8_0, g8_1, g8_2, g8_3, g8_4⟩ := g8
        refine N_block ?_
        refine N_then ?_
        refine J_region ?_
        refine JL_q (wants_none rfl) rfl (ex_move rfl) ?_
        refine JL_q (wants_none rfl) rfl (ex_add rfl rfl) ?_
        refine JL_q (wants_none rfl) rfl (ex_assign rfl) ?_
        refine JL_nil ?_
        exact N_next' (g8_0, g8_1, g8_2, g8_3, g8_4) ⟨rfl, rfl, rfl, rfl, rfl, rfl, rfl, trivial⟩ [0, 1, 2, 3, 4] rfl rfl
    · refine J_exit ?_
      refine N_then_exit ?_
      exact N_break' (g5_0, g5_1, g5_2, g5_3, g5_4) ⟨rfl, rfl, rfl, rfl, rfl, rfl, rfl, trivial⟩ [0, 1, 2, 3, 4] rfl rfl
  · obtain ⟨g5_0, g5_1, g5_2, g5_3, g5_4⟩ := g5
    refine N_then ?_
    refine J_seq ?_
    refine J_region ?_
    refine JL_q (wants_none rfl) rfl (ex_move rfl) ?_
    refine JL_q (wants_none rfl) rfl (ex_move rfl) ?_
    refine JL_q (wants_none rfl) rfl (ex_move rfl) ?_
    refine JL_q (wants_none rfl) rfl (ex_assign rfl) ?_
    refine JL_q (wants_none rfl) rfl (ex_assign rfl) ?_
    refine JL_q (wants_none rfl) rfl (ex_assign rfl) ?_
    refine JL_nil ?_
    refine N_then ?_
    refine J_ret ?_
    exact N_ret3 rfl (rv_tmp rfl) (rv_tmp rfl) (rv_tmp rfl) (fun w hh => ⟨(g5_0, g5_1, g5_2, g5_3), rfl, hh.sel [2, 3] rfl⟩)

set_option maxHeartbeats 40000000 in
theorem c_spec_B10Derived (A : Nat → Prop) (w : World) (hA : ∀ k, A k → k < w.heap.size) (v0_ : Value) (p0 : (List (Ik .u8))) (hp0 : Rd A w v0_ p0) (r : (List GRewrite) × (List Int) × (List Int) × (List (List Int))) (hr : F_spec_B10Derived p0 = some r) :
    Con Try.prog 5 [v0_] A w (fun x_ : Value × List Nat × Value × List Nat × Value × Value => .tuple #[x_.1, x_.2.2.1, x_.2.2.2.2.1, x_.2.2.2.2.2]) (fun x_ => [.od 50 x_.1 r.1 x_.2.1, .tkn x_.2.2.1 r.2.1 x_.2.2.2.1, .rd x_.2.2.2.2.1 r.2.2.1, .ow 25 x_.2.2.2.2.2 r.2.2.2]) := by
  refine Con_of (v := fun (r : (List GRewrite) × (List Int) × (List Int) × (List (List Int))) (x_ : Value × List Nat × Value × List Nat × Value × Value) => .tuple #[x_.1, x_.2.2.1, x_.2.2.2.2.1, x_.2.2.2.2.2]) (fs := fun r x_ => [.od 50 x_.1 r.1 x_.2.1, .tkn x_.2.2.1 r.2.1 x_.2.2.2.1, .rd x_.2.2.2.2.1 r.2.2.1, .ow 25 x_.2.2.2.2.2 r.2.2.2]) Try.func5 rfl Try.ntmps5 rfl ((SH.start hA).start_rd rfl hp0) rfl ?_ hr
  unfold F_spec_B10Derived
  refine J_seq ?_
  refine J_region ?_
  refine JL_q (wants_none rfl) rfl (ex_assign rfl) ?_
  refine JL_q (wants_none rfl) rfl (ex_assign rfl) ?_
  refine JL_q (wants_none rfl) rfl (ex_assign rfl) ?_
  refine JL_q (wants_none rfl) rfl (ex_assign rfl) ?_
  refine JL_nil ?_
  refine N_then ?_
  refine J_seq ?_
  refine J_region ?_
  refine JL_q (wants_none rfl) rfl (ex_move rfl) ?_
  refine JL_inline (wants_none rfl) rfl Try.call14 rfl Try.func14 rfl Try.ntmps14 rfl rfl (fun K_ hK1 => ?_)
  refine J_seq ?_
  refine J_region ?_
  refine JL_q (wants_none rfl) rfl (ex_assign rfl) ?_
  refine JL_nil ?_
  refine N_then ?_
  refine J_seq ?_
  refine J_region ?_
  refine JL_q (wants_none rfl) rfl (ex_move rfl) ?_
  refine JL_q (wants_none rfl) rfl (ex_build si_69 rfl (.cons fi_69_0 rfl rfl .nil) (fun w hh => ⟨(hh.cv 0 rfl), trivial⟩)) ?_
  refine JL_st (wants_none rfl) rfl (st_box' rfl (fun w hh => (cv_aggs ⟨(hh.cv 0 rfl), cv_int, cv_int, trivial⟩))) (fun b2 => ?_)
  refine JL_q (wants_none rfl) rfl (ex_assign rfl) ?_
  refine JL_nil ?_
  refine N_then ?_
  refine J_ret ?_
  refine N_inl1 hK1 rfl (rv_tmp rfl) ?_
  refine JL_q (wants_none rfl) rfl (ex_assign rfl) ?_
  refine JL_nil ?_
  refine N_then ?_
  refine J_seq ?_
  refine J_region ?_
  refine JL_q (wants_none rfl) rfl (ex_move rfl) ?_
  refine JL_bnd fun r3 hr4 => ?_
  refine JL_callT (wants_none rfl) rfl Try.call15 rfl (CaT_of [0] [1] rfl rfl (fun _ => rfl) fun w hh => c_spec_l10DrawOk w b2 (⟨p0, 0, (⟨0⟩ : Ik .u64)⟩ : Gl00Src) v0_ _ rfl (hh.handed [0] rfl rfl rfl rfl) (hh.apart [0] rfl (hh.rd 1 rfl)) _ hr4) (fun x5 => ?_)
  obtain ⟨x5_0, x5_1⟩ := x5
  refine JL_q (wants_none rfl) rfl (ex_assign rfl) ?_
  refine JL_nil ?_
  refine N_then ?_
  refine J_seq ?_
  refine J_region ?_
  refine JL_q (wants_none rfl) rfl (ex_move rfl) ?_
  refine JL_bnd fun r6 hr7 => ?_
  refine JL_callT (wants_none rfl) rfl Try.call16 rfl (CaT_of [1] [0, 2] rfl rfl (fun _ => rfl) fun w hh => c_spec_l10DrawWord w b2 (⟨p0, r3.2.1, r3.2.2⟩ : Gl00Src) v0_ _ rfl (hh.handed [1] rfl rfl rfl rfl) (hh.apart [1] rfl (hh.rd 2 rfl)) _ _ _ _ hr7) (fun x8 => ?_)
  refine JL_q (wants_none rfl) rfl (ex_assign rfl) ?_
  refine JL_nil ?_
  refine N_then ?_
  refine J_seq ?_
  refine J_region ?_
  refine JL_q (wants_none rfl) rfl (ex_move rfl) ?_
  refine JL_q (wants_none rfl) rfl (ex_assign rfl) ?_
  refine JL_nil ?_
  refine N_then ?_
  refine J_seq ?_
  refine J_region ?_
  refine JL_st (wants_none rfl) rfl (st_buildSlice_od (vs := []) (B := ([] : List Nat)) ([] : List (List Int)) [] Try.underlying26 ti_25 zi_25 rfl rfl rfl rfl rfl (fun w hh => dwv_nil)) (fun b9 => ?_)
  refine JL_q (wants_none rfl) rfl (ex_assign rfl) ?_
  refine JL_nil ?_
  refine N_then ?_
  refine J_seq ?_
  refine J_seq ?_
  refine J_region ?_
  refine JL_q (wants_none rfl) rfl (ex_move rfl) ?_
  refine JL_bnd fun r10 hr11 => ?_
  refine JL_callT (wants_none rfl) rfl Try.call17 rfl (CaT_of [2] [0, 1, 3, 4] rfl rfl (fun _ => rfl) fun w hh => c_spec_l00Src_pick w b2 (⟨p0, r6.2.1, r6.2.2⟩ : Gl00Src) v0_ _ rfl (hh.handed [2] rfl rfl rfl rfl) (hh.apart [2] rfl (hh.rd 4 rfl)) _ _ hr11) (fun _ => ?_)
  refine JL_q (wants_none rfl) rfl (ex_assign rfl) ?_
  refine JL_nil ?_
  refine N_then ?_
  refine J_ctx (fun w hh => hh.tokf 2 rfl rfl) ?_
  refine J_ctx (fun w hh => hh.cons_rd (hh.rd 3 rfl)) ?_
  refine J_ctx (fun w hh => hh.od_ow 3 rfl) ?_
  refine J_loop' (S := Int × (Ik .u64) × (List Int) × (List (List Int)) × Int) (G := Value × Value) (F_spec_B10Derived_L1 p0 r3) (fun s12 g13 => [(6, .pointer (some ⟨b2, 0, none⟩)), (7, x5_0), (8, x8), (9, g13.1), (10, g13.2), (11, .int .i64 s12.2.2.2.2)]) (fun s12 g13 => [.rd v0_ p0, .bx b2 69 [v0_, .int .i64 s12.1, .int .u64 s12.2.1.val], .od 50 x5_0 r3.1 x5_1, .rd x8 r6.1, .tkn x8 r6.1 ((x8 : Value).ownBlock.toList ++ []), .rd g13.1 s12.2.2.1, .ow 25 g13.2 s12.2.2.2.1]) (r10.2.1, r10.2.2, r6.1, ([] : List (List Int)), r10.1) (x8, (.slice (some ⟨b9, 0, none⟩) 0 0)) ⟨rfl, rfl, rfl, rfl, rfl, rfl, trivial⟩ [6, 2, 5, 4, 1, 0, 3] rfl rfl (fun s12 g13 => ?_) (fun s12 g13 => ?_)
  · obtain ⟨g13_0, g13_1⟩ := g13
    unfold F_spec_B10Derived_L1
    refine J_seq ?_
    refine J_seq ?_
    refine J_region ?_
    refine JL_q (wants_none rfl) rfl (ex_move rfl) ?_
    refine JL_q (wants_none rfl) rfl (ex_gtr rfl rfl) ?_
    refine JL_nil ?_
    refine N_then ?_
    refine J_if rfl (fun h14 => ?_) (fun h14 => ?_)
    · refine J_skip ?_
      refine N_then ?_
      refine J_seq ?_
      refine J_block ?_
      refine J_seq ?_
      refine J_region ?_
      refine JL_q (wants_none rfl) rfl (ex_move rfl) ?_
      refine JL_q (wants_none rfl) rfl (ex_move rfl) ?_
      refine JL_bnd fun r15 hr16 => ?_
      refine JL_call (wants_none rfl) rfl Try.call18 rfl (Ca_self (fun _ => rfl) fun w hh => c_spec_l10Next _ w (fun _ hk => hk.elim) _ _ (hh.od0 2 rfl) _ _ (hh.rd0 5 rfl) _ hr16) (fun x17 => ?_)
      obtain ⟨x17_0, x17_1, x17_2, x17_3⟩ := x17
      refine JL_q (wants_none rfl) rfl (ex_move rfl) ?_
      refine JL_q (wants_none rfl) rfl (ex_extract rfl rfl) ?_
      refine JL_q (wants_none rfl) rfl (ex_extract rfl rfl) ?_
      refine JL_q (wants_none rfl) rfl (ex_extract rfl rfl) ?_
      refine JL_q (wants_none rfl) rfl (ex_assign rfl) ?_
      refine JL_q (wants_none rfl) rfl (ex_assign rfl) ?_
      refine JL_q (wants_none rfl) rfl (ex_assign rfl) ?_
      refine JL_nil ?_
      refine N_then ?_
      refine J_seq ?_
      refine J_seq ?_
      refine J_region ?_
      refine JL_q (wants_none rfl) rfl (ex_move rfl) ?_
      refine JL_q (wants_none rfl) rfl (ex_od 0 rfl (ex_len_ow 0 Try.underlying26 rfl rfl)) ?_
      refine JL_q (wants_none rfl) rfl (ex_eql rfl rfl) ?_
      refine JL_nil ?_
      refine N_then ?_
      refine J_if rfl (fun h18 => ?_) (fun h18 => ?_)
      · refine J_exit ?_
        refine N_then_exit ?_
        refine N_block_exit_ne rfl ?_
        refine N_then_exit ?_
        exact N_break' (g13_0, g13_1) ⟨rfl, rfl, rfl, rfl, rfl, rfl, trivial⟩ [2, 3, 4, 5, 6, 7, 8] rfl rfl
      · refine J_skip ?_
        refine N_then ?_
        refine J_seq ?_
        refine J_region ?_
        refine JL_q (wants_none rfl) rfl (ex_move rfl) ?_
        refine JL_q (wants_none rfl) rfl (ex_move rfl) ?_
        refine JL_q (wants_none rfl) rfl (ex_od 0 rfl (ex_len_ow 0 Try.underlying26 rfl rfl)) ?_
        refine JL_bnd fun r19 hr20 => ?_
        refine JL_callT (wants_none rfl) rfl Try.call17 rfl (CaT_of [3] [0, 1, 2, 4, 5, 6, 7, 8] rfl rfl (fun _ => rfl) fun w hh => c_spec_l00Src_pick w b2 (⟨p0, s12.1, s12.2.1⟩ : Gl00Src) v0_ _ rfl (hh.handed [3] rfl rfl rfl rfl) (hh.apart [3] rfl (hh.rd 2 rfl)) _ _ hr20) (fun _ => ?_)
        refine JL_q (wants_none rfl) rfl (ex_assign rfl) ?_
        refine JL_nil ?_
        refine N_then ?_
        refine J_seq ?_
        refine J_region ?_
        refine JL_q (wants_none rfl) rfl (ex_move rfl) ?_
        refine JL_q (wants_none rfl) rfl (ex_move rfl) ?_
        refine JL_bnd fun y21 hy22 => ?_
        refine JL_od_open (v := x17_0) 1 rfl hy22 ?_; rintro b23 cap24 rfl
        refine JL_q (wants_none rfl) rfl (ex_od 1 rfl (ex_index_ow 1 Try.underlying26 ti_25 rfl rfl rfl hy22)) ?_
        refine JL_st (wants_none rfl) rfl (st_od 1 rfl (st_load_ow_o 1 (opens_sl _) ti_25 rfl rfl hy22) (fun _ => rfl)) (fun v25 => ?_)
        refine JL_q (wants_none rfl) rfl (ex_assign rfl) ?_
        refine JL_nil ?_
        refine N_then ?_
        refine J_region ?_
        refine JL_q (wants_none rfl) rfl (ex_move rfl) ?_
        refine JL_q (wants_none rfl) rfl (ex_move rfl) ?_
        refine JL_q (wants_none rfl) rfl (ex_move rfl) ?_
        refine JL_bnd fun y26 hy27 => ?_
        refine JL_od_open (v := x17_2) 3 rfl hy27 ?_; rintro b28 cap29 rfl
        refine JL_q (wants_none rfl) rfl (ex_od 3 rfl (ex_index_ow 3 Try.underlying26 ti_25 rfl rfl rfl hy27)) ?_
        refine JL_st (wants_none rfl) rfl (st_od 3 rfl (st_load_ow_o 3 (opens_sl _) ti_25 rfl rfl hy27) (fun _ => rfl)) (fun v30 => ?_)
        refine JL_st (wants_none rfl) rfl (st_buildSlice (vs := [v30]) ([y26] : List (List Int)) Try.underlying26 ti_25 zi_25 rfl rfl rfl (fun w hh => ⟨(hh.rd 0 rfl), trivial⟩)) (fun b31 => ?_)
        refine JL_bnd fun z32 hz33 => ?_
        refine JL_st (wants_none rfl) rfl (st_append 11 Try.underlying26 ti_25 zi_25 rfl bi_25 rfl rfl rfl rfl (fun w hh => hh.src_ow 0 rfl) hz33) (fun v34 => ?_)
        refine JL_q (wants_none rfl) rfl (ex_assign rfl) ?_
        refine JL_nil ?_
        refine N_block ?_
        refine N_then ?_
        refine J_region ?_
        refine JL_q (wants_none rfl) rfl (ex_move rfl) ?_
        refine JL_q (wants_none rfl) rfl (ex_sub rfl rfl) ?_
        refine JL_q (wants_none rfl) rfl (ex_assign rfl) ?_
        refine JL_nil ?_
        exact N_next' (v25, v34) ⟨rfl, rfl, rfl, rfl, rfl, rfl, trivial⟩ [6, 3, 7, 8, 9, 2, 11] rfl rfl
    · refine J_exit ?_
      refine N_then_exit ?_
      exact N_break' (g13_0, g13_1) ⟨rfl, rfl, rfl, rfl, rfl, rfl, trivial⟩ [0, 1, 2, 3, 4, 5, 6] rfl rfl
  · obtain ⟨g13_0, g13_1⟩ := g13
    refine N_then ?_
    refine J_seq ?_
    refine J_region ?_
    refine JL_q (wants_none rfl) rfl (ex_move rfl) ?_
    refine JL_q (wants_none rfl) rfl (ex_move rfl) ?_
    refine JL_q (wants_none rfl) rfl (ex_move rfl) ?_
    refine JL_q (wants_none rfl) rfl (ex_move rfl) ?_
    refine JL_q (wants_none rfl) rfl (ex_assign rfl) ?_
    refine JL_q (wants_none rfl) rfl (ex_assign rfl) ?_
    refine JL_q (wants_none rfl) rfl (ex_assign rfl) ?_
    refine JL_q (wants_none rfl) rfl (ex_assign rfl) ?_
    refine JL_nil ?_
    refine N_then ?_
    refine J_ret ?_
    exact N_ret4 rfl (rv_tmp rfl) (rv_tmp rfl) (rv_tmp rfl) (rv_tmp rfl) (fun w hh => ⟨(x5_0, x5_1, x8, ((x8 : Value).ownBlock.toList ++ []), g13_0, g13_1), rfl, hh.sel [2, 4, 5, 6] rfl⟩)

set_option maxHeartbeats 40000000 in
theorem c_impl_size_impl_Rewrite (A : Nat → Prop) (w : World) (hA : ∀ k, A k → k < w.heap.size) (v0_ : Value) (p0 : (List GRewrite)) (hp0 : Rd A w v0_ p0) (r : Int) (hr : F_impl_size_impl_Rewrite p0 = some r) :
    Con Try.prog 47 [v0_] A w (fun x_ : Unit => .int .i64 r) (fun x_ => []) := by
  refine Con_of (v := fun (r : Int) (x_ : Unit) => .int .i64 r) (fs := fun r x_ => []) Try.func47 rfl Try.ntmps47 rfl ((SH.start hA).start_rd rfl hp0) rfl ?_ hr
  unfold F_impl_size_impl_Rewrite
  refine J_seq ?_
  refine J_region ?_
  refine JL_q (wants_none rfl) rfl (ex_assign rfl) ?_
  refine JL_nil ?_
  refine N_then ?_
  refine J_seq ?_
  refine J_region ?_
  refine JL_q (wants_none rfl) rfl (ex_move rfl) ?_
  refine JL_q (wants_none rfl) rfl (ex_len_rd 0 Try.underlying24 rfl rfl) ?_
  refine JL_q (wants_none rfl) rfl (ex_assign rfl) ?_
  refine JL_nil ?_
  refine N_then ?_
  refine J_ret ?_
  exact N_ret1 rfl (rv_tmp rfl) (fun w hh => ⟨(), rfl, hh.sel [] rfl⟩)

set_option maxHeartbeats 40000000 in
theorem c_impl_within (A : Nat → Prop) (w : World) (hA : ∀ k, A k → k < w.heap.size) (p0 : Int) (p1 : Int) (p2 : Int) (r : Bool) (hr : F_impl_within p0 p1 p2 = some r) :
    Con Try.prog 46 [.int .i64 p0, .int .i64 p1, .int .i64 p2] A w (fun x_ : Unit => .bool r) (fun x_ => []) := by
  refine Con_of (v := fun (r : Bool) (x_ : Unit) => .bool r) (fs := fun r x_ => []) Try.func46 rfl Try.ntmps46 rfl (SH.start hA) rfl ?_ hr
  unfold F_impl_within
  refine J_seq ?_
  refine J_region ?_
  refine JL_q (wants_none rfl) rfl (ex_assign rfl) ?_
  refine JL_nil ?_
  refine N_then ?_
  refine J_seq ?_
  refine J_region ?_
  refine JL_q (wants_none rfl) rfl (ex_move rfl) ?_
  refine JL_q (wants_none rfl) rfl (ex_move rfl) ?_
  refine JL_q (wants_none rfl) rfl (ex_leq rfl rfl) ?_
  refine JL_q (wants_none rfl) rfl (ex_move rfl) ?_
  refine JL_cond (fun h1 => ?_) (fun h1 => ?_)
  · refine JL_q (wants_some rfl rfl rfl h1) rfl (ex_move rfl) ?_
    refine JL_q (wants_some rfl rfl rfl h1) rfl (ex_move rfl) ?_
    refine JL_q (wants_some rfl rfl rfl h1) rfl (ex_leq rfl rfl) ?_
    refine JL_q (wants_none rfl) rfl (ex_pick_true rfl h1 rfl) ?_
    refine JL_q (wants_none rfl) rfl (ex_assign rfl) ?_
    refine JL_nil ?_
    refine N_then ?_
    refine J_ret ?_
    exact N_ret1 rfl (rv_tmp rfl) (fun w hh => ⟨(), rfl, hh.sel [] rfl⟩)
  · refine JL_passed rfl rfl rfl h1 ?_
    refine JL_passed rfl rfl rfl h1 ?_
    refine JL_passed rfl rfl rfl h1 ?_
    refine JL_q (wants_none rfl) rfl (ex_pick_false rfl h1 rfl) ?_
    refine JL_q (wants_none rfl) rfl (ex_assign rfl) ?_
    refine JL_nil ?_
    refine N_then ?_
    refine J_ret ?_
    exact N_ret1 rfl (rv_tmp rfl) (fun w hh => ⟨(), rfl, hh.sel [] rfl⟩)

set_option maxHeartbeats 40000000 in
theorem c_slices_IndexFunc_Simpl_Rewrite_impl_Rewrite (A : Nat → Prop) (w : World) (hA : ∀ k, A k → k < w.heap.size) (v0_ : Value) (p0 : (List GRewrite)) (hp0 : Rd A w v0_ p0) (v1_ : Value) (p1 : (GRewrite → Option Bool)) (hp1 : Clo Try.prog w v1_ p1 .bool) (r : Int) (hr : F_slices_IndexFunc_Simpl_Rewrite_impl_Rewrite p0 p1 = some r) :
    Con Try.prog 70 [v0_, v1_] A w (fun x_ : Unit => .int .i64 r) (fun x_ => []) := by
  refine Con_of (v := fun (r : Int) (x_ : Unit) => .int .i64 r) (fs := fun r x_ => []) Try.func70 rfl Try.ntmps70 rfl ((SH.start hA).start_rd rfl hp0) rfl ?_ hr
  unfold F_slices_IndexFunc_Simpl_Rewrite_impl_Rewrite
  refine J_seq ?_
  refine J_region ?_
  refine JL_q (wants_none rfl) rfl (ex_assign rfl) ?_
  refine JL_nil ?_
  refine N_then ?_
  refine J_seq ?_
  refine J_seq ?_
  refine J_region ?_
  refine JL_q (wants_none rfl) rfl (ex_move rfl) ?_
  refine JL_q (wants_none rfl) rfl (ex_len_rd 0 Try.underlying24 rfl rfl) ?_
  refine JL_q (wants_none rfl) rfl (ex_move rfl) ?_
  refine JL_nil ?_
  refine N_then ?_
  refine J_loop' (S := Int) (G := Unit) (F_slices_IndexFunc_Simpl_Rewrite_impl_Rewrite_L1 p0 p1) (fun s1 _ => [(0, v0_), (1, v1_), (7, .int .i64 (p0.length : Int)), (8, .int .i64 s1)]) (fun s1 _ => [.rd v0_ p0]) 0 () ⟨rfl, rfl, rfl, rfl, trivial⟩ [0] rfl rfl (fun s1 g2 => ?_) (fun s1 g2 => ?_)
  · unfold F_slices_IndexFunc_Simpl_Rewrite_impl_Rewrite_L1
    refine J_seq ?_
    refine J_region ?_
    refine JL_q (wants_none rfl) rfl (ex_lss rfl rfl) ?_
    refine JL_nil ?_
    refine N_then ?_
    refine J_seq ?_
    refine J_if rfl (fun h3 => ?_) (fun h3 => ?_)
    · refine J_skip ?_
      refine N_then ?_
      refine J_seq ?_
      refine J_block ?_
      refine J_seq ?_
      refine J_region ?_
      refine JL_q (wants_none rfl) rfl (ex_move rfl) ?_
      refine JL_q (wants_none rfl) rfl (ex_assign rfl) ?_
      refine JL_nil ?_
      refine N_then ?_
      refine J_seq ?_
      refine J_region ?_
      refine JL_q (wants_none rfl) rfl (ex_move rfl) ?_
      refine JL_q (wants_none rfl) rfl (ex_move rfl) ?_
      refine JL_q (wants_none rfl) rfl (ex_move rfl) ?_
      refine JL_bnd fun y4 hy5 => ?_
      refine JL_st (wants_none rfl) rfl (st_index 0 Try.underlying24 ti_50 rfl rfl rfl hy5) (fun q6 => ?_)
      refine JL_st (wants_none rfl) rfl (st_load_pt_o 0 (GRewrite.opens _) ti_50 rfl rfl) (fun v7 => ?_)
      refine JL_bnd fun r8 hr9 => ?_
      refine JL_clo (wants_none rfl) rfl hp1 rfl rfl (fun w hh => (GRewrite.rdmk (hh.rd0 0 rfl) (hh.rd0 1 rfl))) hr9 ?_
      refine JL_nil ?_
      refine N_then ?_
      refine J_if rfl (fun h10 => ?_) (fun h10 => ?_)
      · refine J_seq ?_
        refine J_region ?_
        refine JL_q (wants_none rfl) rfl (ex_move rfl) ?_
        refine JL_q (wants_none rfl) rfl (ex_assign rfl) ?_
        refine JL_nil ?_
        refine N_then ?_
        refine J_ret ?_
        refine N_block_ret ?_
        refine N_then_ret ?_
        refine N_round_ret ?_
        refine N_then_ret ?_
        exact N_ret1 rfl (rv_tmp rfl) (fun w hh => ⟨(), rfl, hh.sel [] rfl⟩)
      · refine J_skip ?_
        refine N_block ?_
        refine N_then ?_
        refine J_region ?_
        refine JL_q (wants_none rfl) rfl (ex_add rfl rfl) ?_
        refine JL_q (wants_none rfl) rfl (ex_move rfl) ?_
        refine JL_nil ?_
        exact N_next' () ⟨rfl, rfl, rfl, rfl, trivial⟩ [3] rfl rfl
    · refine J_exit ?_
      refine N_then_exit ?_
      exact N_break' () ⟨rfl, rfl, rfl, rfl, trivial⟩ [0] rfl rfl
  · refine N_then ?_
    refine J_seq ?_
    refine J_region ?_
    refine JL_q (wants_none rfl) rfl (ex_assign rfl) ?_
    refine JL_nil ?_
    refine N_then ?_
    refine J_ret ?_
    exact N_ret1 rfl (rv_tmp rfl) (fun w hh => ⟨(), rfl, hh.sel [] rfl⟩)

set_option maxHeartbeats 40000000 in
theorem c_slices_ContainsFunc_Simpl_Rewrite_impl_Rewrite (A : Nat → Prop) (w : World) (hA : ∀ k, A k → k < w.heap.size) (v0_ : Value) (p0 : (List GRewrite)) (hp0 : Rd A w v0_ p0) (v1_ : Value) (p1 : (GRewrite → Option Bool)) (hp1 : Clo Try.prog w v1_ p1 .bool) (r : Bool) (hr : F_slices_ContainsFunc_Simpl_Rewrite_impl_Rewrite p0 p1 = some r) :
    Con Try.prog 48 [v0_, v1_] A w (fun x_ : Unit => .bool r) (fun x_ => []) := by
  refine Con_of (v := fun (r : Bool) (x_ : Unit) => .bool r) (fs := fun r x_ => []) Try.func48 rfl Try.ntmps48 rfl ((SH.start hA).start_rd rfl hp0) rfl ?_ hr
  unfold F_slices_ContainsFunc_Simpl_Rewrite_impl_Rewrite
  refine J_seq ?_
  refine J_region ?_
  refine JL_q (wants_none rfl) rfl (ex_assign rfl) ?_
  refine JL_nil ?_
  refine N_then ?_
  refine J_seq ?_
  refine J_region ?_
  refine JL_q (wants_none rfl) rfl (ex_move rfl) ?_
  refine JL_q (wants_none rfl) rfl (ex_move rfl) ?_
  refine JL_bnd fun r1 hr2 => ?_
  refine JL_call (wants_none rfl) rfl Try.call70 rfl (Ca_of0 fun w hh => c_slices_IndexFunc_Simpl_Rewrite_impl_Rewrite _ w (fun _ hk => hk.elim) _ _ (hh.rd0 0 rfl) _ _ (hp1.later hh.below) _ hr2) (fun _ => ?_)
  refine JL_q (wants_none rfl) rfl (ex_geq rfl rfl) ?_
  refine JL_q (wants_none rfl) rfl (ex_assign rfl) ?_
  refine JL_nil ?_
  refine N_then ?_
  refine J_ret ?_
  exact N_ret1 rfl (rv_tmp rfl) (fun w hh => ⟨(), rfl, hh.sel [] rfl⟩)

set_option maxHeartbeats 40000000 in
theorem c_slices_IndexFunc_SSint64_Sint64 (A : Nat → Prop) (w : World) (hA : ∀ k, A k → k < w.heap.size) (v0_ : Value) (p0 : (List (List Int))) (hp0 : Rd A w v0_ p0) (v1_ : Value) (p1 : ((List Int) → Option Bool)) (hp1 : Clo Try.prog w v1_ p1 .bool) (r : Int) (hr : F_slices_IndexFunc_SSint64_Sint64 p0 p1 = some r) :
    Con Try.prog 71 [v0_, v1_] A w (fun x_ : Unit => .int .i64 r) (fun x_ => []) := by
  refine Con_of (v := fun (r : Int) (x_ : Unit) => .int .i64 r) (fs := fun r x_ => []) Try.func71 rfl Try.ntmps71 rfl ((SH.start hA).start_rd rfl hp0) rfl ?_ hr
  unfold F_slices_IndexFunc_SSint64_Sint64
  refine J_seq ?_
  refine J_region ?_
  refine JL_q (wants_none rfl) rfl (ex_assign rfl) ?_
  refine JL_nil ?_
  refine N_then ?_
  refine J_seq ?_
  refine J_seq ?_
  refine J_region ?_
  refine JL_q (wants_none rfl) rfl (ex_move rfl) ?_
  refine JL_q (wants_none rfl) rfl (ex_len_rd 0 Try.underlying26 rfl rfl) ?_
  refine JL_q (wants_none rfl) rfl (ex_move rfl) ?_
  refine JL_nil ?_
  refine N_then ?_
  refine J_loop' (S := Int) (G := Unit) (F_slices_IndexFunc_SSint64_Sint64_L1 p0 p1) (fun s1 _ => [(0, v0_), (1, v1_), (7, .int .i64 (p0.length : Int)), (8, .int .i64 s1)]) (fun s1 _ => [.rd v0_ p0]) 0 () ⟨rfl, rfl, rfl, rfl, trivial⟩ [0] rfl rfl (fun s1 g2 => ?_) (fun s1 g2 => ?_)
  · unfold F_slices_IndexFunc_SSint64_Sint64_L1
    refine J_seq ?_
    refine J_region ?_
    refine JL_q (wants_none rfl) rfl (ex_lss rfl rfl) ?_
    refine JL_nil ?_
    refine N_then ?_
    refine J_seq ?_
    refine J_if rfl (fun h3 => ?_) (fun h3 => ?_)
    · refine J_skip ?_
      refine N_then ?_
      refine J_seq ?_
      refine J_block ?_
      refine J_seq ?_
      refine J_region ?_
      refine JL_q (wants_none rfl) rfl (ex_move rfl) ?_
      refine JL_q (wants_none rfl) rfl (ex_assign rfl) ?_
      refine JL_nil ?_
      refine N_then ?_
      refine J_seq ?_
      refine J_region ?_
      refine JL_q (wants_none rfl) rfl (ex_move rfl) ?_
      refine JL_q (wants_none rfl) rfl (ex_move rfl) ?_
      refine JL_q (wants_none rfl) rfl (ex_move rfl) ?_
      refine JL_bnd fun y4 hy5 => ?_
      refine JL_st (wants_none rfl) rfl (st_index 0 Try.underlying26 ti_25 rfl rfl rfl hy5) (fun q6 => ?_)
      refine JL_st (wants_none rfl) rfl (st_load_pt_o 0 (opens_sl _) ti_25 rfl rfl) (fun v7 => ?_)
      refine JL_bnd fun r8 hr9 => ?_
      refine JL_clo (wants_none rfl) rfl hp1 rfl rfl (fun w hh => (hh.rd0 0 rfl)) hr9 ?_
      refine JL_nil ?_
      refine N_then ?_
      refine J_if rfl (fun h10 => ?_) (fun h10 => ?_)
      · refine J_seq ?_
        refine J_region ?_
        refine JL_q (wants_none rfl) rfl (ex_move rfl) ?_
        refine JL_q (wants_none rfl) rfl (ex_assign rfl) ?_
        refine JL_nil ?_
        refine N_then ?_
        refine J_ret ?_
        refine N_block_ret ?_
        refine N_then_ret ?_
        refine N_round_ret ?_
        refine N_then_ret ?_
        exact N_ret1 rfl (rv_tmp rfl) (fun w hh => ⟨(), rfl, hh.sel [] rfl⟩)
      · refine J_skip ?_
        refine N_block ?_
        refine N_then ?_
        refine J_region ?_
        refine JL_q (wants_none rfl) rfl (ex_add rfl rfl) ?_
        refine JL_q (wants_none rfl) rfl (ex_move rfl) ?_
        refine JL_nil ?_
        exact N_next' () ⟨rfl, rfl, rfl, rfl, trivial⟩ [2] rfl rfl
    · refine J_exit ?_
      refine N_then_exit ?_
      exact N_break' () ⟨rfl, rfl, rfl, rfl, trivial⟩ [0] rfl rfl
  · refine N_then ?_
    refine J_seq ?_
    refine J_region ?_
    refine JL_q (wants_none rfl) rfl (ex_assign rfl) ?_
    refine JL_nil ?_
    refine N_then ?_
    refine J_ret ?_
    exact N_ret1 rfl (rv_tmp rfl) (fun w hh => ⟨(), rfl, hh.sel [] rfl⟩)

set_option maxHeartbeats 40000000 in
theorem c_slices_ContainsFunc_SSint64_Sint64 (A : Nat → Prop) (w : World) (hA : ∀ k, A k → k < w.heap.size) (v0_ : Value) (p0 : (List (List Int))) (hp0 : Rd A w v0_ p0) (v1_ : Value) (p1 : ((List Int) → Option Bool)) (hp1 : Clo Try.prog w v1_ p1 .bool) (r : Bool) (hr : F_slices_ContainsFunc_SSint64_Sint64 p0 p1 = some r) :
    Con Try.prog 50 [v0_, v1_] A w (fun x_ : Unit => .bool r) (fun x_ => []) := by
  refine Con_of (v := fun (r : Bool) (x_ : Unit) => .bool r) (fs := fun r x_ => []) Try.func50 rfl Try.ntmps50 rfl ((SH.start hA).start_rd rfl hp0) rfl ?_ hr
  unfold F_slices_ContainsFunc_SSint64_Sint64
  refine J_seq ?_
  refine J_region ?_
  refine JL_q (wants_none rfl) rfl (ex_assign rfl) ?_
  refine JL_nil ?_
  refine N_then ?_
  refine J_seq ?_
  refine J_region ?_
  refine JL_q (wants_none rfl) rfl (ex_move rfl) ?_
  refine JL_q (wants_none rfl) rfl (ex_move rfl) ?_
  refine JL_bnd fun r1 hr2 => ?_
  refine JL_call (wants_none rfl) rfl Try.call71 rfl (Ca_of0 fun w hh => c_slices_IndexFunc_SSint64_Sint64 _ w (fun _ hk => hk.elim) _ _ (hh.rd0 0 rfl) _ _ (hp1.later hh.below) _ hr2) (fun _ => ?_)
  refine JL_q (wants_none rfl) rfl (ex_geq rfl rfl) ?_
  refine JL_q (wants_none rfl) rfl (ex_assign rfl) ?_
  refine JL_nil ?_
  refine N_then ?_
  refine J_ret ?_
  exact N_ret1 rfl (rv_tmp rfl) (fun w hh => ⟨(), rfl, hh.sel [] rfl⟩)

set_option maxHeartbeats 40000000 in
theorem c_impl_allWithin (A : Nat → Prop) (w : World) (hA : ∀ k, A k → k < w.heap.size) (v0_ : Value) (p0 : (List Int)) (hp0 : Rd A w v0_ p0) (p1 : Int) (p2 : Int) (r : Bool) (hr : F_impl_allWithin p0 p1 p2 = some r) :
    Con Try.prog 53 [v0_, .int .i64 p1, .int .i64 p2] A w (fun x_ : Unit => .bool r) (fun x_ => []) := by
  refine Con_of (v := fun (r : Bool) (x_ : Unit) => .bool r) (fs := fun r x_ => []) Try.func53 rfl Try.ntmps53 rfl ((SH.start hA).start_rd rfl hp0) rfl ?_ hr
  unfold F_impl_allWithin
  refine J_seq ?_
  refine J_region ?_
  refine JL_q (wants_none rfl) rfl (ex_assign rfl) ?_
  refine JL_nil ?_
  refine N_then ?_
  refine J_seq ?_
  refine J_seq ?_
  refine J_region ?_
  refine JL_q (wants_none rfl) rfl (ex_move rfl) ?_
  refine JL_q (wants_none rfl) rfl (ex_len_rd 0 Try.underlying25 rfl rfl) ?_
  refine JL_q (wants_none rfl) rfl (ex_move rfl) ?_
  refine JL_nil ?_
  refine N_then ?_
  refine J_loop' (S := Int) (G := Unit) (F_impl_allWithin_L1 p0 p1 p2) (fun s1 _ => [(1, .int .i64 p1), (2, .int .i64 p2), (9, v0_), (10, .int .i64 (p0.length : Int)), (11, .int .i64 s1)]) (fun s1 _ => [.rd v0_ p0]) 0 () ⟨rfl, rfl, rfl, rfl, rfl, trivial⟩ [0] rfl rfl (fun s1 g2 => ?_) (fun s1 g2 => ?_)
  · unfold F_impl_allWithin_L1
    refine J_seq ?_
    refine J_region ?_
    refine JL_q (wants_none rfl) rfl (ex_lss rfl rfl) ?_
    refine JL_nil ?_
    refine N_then ?_
    refine J_seq ?_
    refine J_if rfl (fun h3 => ?_) (fun h3 => ?_)
    · refine J_skip ?_
      refine N_then ?_
      refine J_seq ?_
      refine J_block ?_
      refine J_seq ?_
      refine J_region ?_
      refine JL_bnd fun y4 hy5 => ?_
      refine JL_st (wants_none rfl) rfl (st_index 0 Try.underlying25 ti_2 rfl rfl rfl hy5) (fun q6 => ?_)
      refine JL_st (wants_none rfl) rfl (st_load_pt_o 0 (opens_int _) ti_2 rfl rfl) (fun _ => ?_)
      refine JL_q (wants_none rfl) rfl (ex_assign rfl) ?_
      refine JL_nil ?_
      refine N_then ?_
      refine J_seq ?_
      refine J_region ?_
      refine JL_q (wants_none rfl) rfl (ex_move rfl) ?_
      refine JL_q (wants_none rfl) rfl (ex_move rfl) ?_
      refine JL_q (wants_none rfl) rfl (ex_move rfl) ?_
      refine JL_bnd fun r8 hr9 => ?_
      refine JL_call (wants_none rfl) rfl Try.call46 rfl (Ca_of0 fun w hh => c_impl_within _ w (fun _ hk => hk.elim) _ _ _ _ hr9) (fun _ => ?_)
      refine JL_q (wants_none rfl) rfl (ex_not rfl) ?_
      refine JL_nil ?_
      refine N_then ?_
      refine J_if rfl (fun h10 => ?_) (fun h10 => ?_)
      · refine J_seq ?_
        refine J_region ?_
        refine JL_q (wants_none rfl) rfl (ex_assign rfl) ?_
        refine JL_nil ?_
        refine N_then ?_
        refine J_ret ?_
        refine N_block_ret ?_
        refine N_then_ret ?_
        refine N_round_ret ?_
        refine N_then_ret ?_
        exact N_ret1 rfl (rv_tmp rfl) (fun w hh => ⟨(), rfl, hh.sel [] rfl⟩)
      · refine J_skip ?_
        refine N_block ?_
        refine N_then ?_
        refine J_region ?_
        refine JL_q (wants_none rfl) rfl (ex_add rfl rfl) ?_
        refine JL_q (wants_none rfl) rfl (ex_move rfl) ?_
        refine JL_nil ?_
        exact N_next' () ⟨rfl, rfl, rfl, rfl, rfl, trivial⟩ [1] rfl rfl
    · refine J_exit ?_
      refine N_then_exit ?_
      exact N_break' () ⟨rfl, rfl, rfl, rfl, rfl, trivial⟩ [0] rfl rfl
  · refine N_then ?_
    refine J_seq ?_
    refine J_region ?_
    refine JL_q (wants_none rfl) rfl (ex_assign rfl) ?_
    refine JL_nil ?_
    refine N_then ?_
    refine J_ret ?_
    exact N_ret1 rfl (rv_tmp rfl) (fun w hh => ⟨(), rfl, hh.sel [] rfl⟩)

set_option maxHeartbeats 40000000 in
theorem c_impl_isLetters (A : Nat → Prop) (w : World) (hA : ∀ k, A k → k < w.heap.size) (v0_ : Value) (p0 : (List Int)) (hp0 : Rd A w v0_ p0) (r : Bool) (hr : F_impl_isLetters p0 = some r) :
    Con Try.prog 68 [v0_] A w (fun x_ : Unit => .bool r) (fun x_ => []) := by
  refine Con_of (v := fun (r : Bool) (x_ : Unit) => .bool r) (fs := fun r x_ => []) Try.func68 rfl Try.ntmps68 rfl ((SH.start hA).start_rd rfl hp0) rfl ?_ hr
  unfold F_impl_isLetters
  refine J_seq ?_
  refine J_region ?_
  refine JL_q (wants_none rfl) rfl (ex_assign rfl) ?_
  refine JL_nil ?_
  refine N_then ?_
  refine J_seq ?_
  refine J_region ?_
  refine JL_q (wants_none rfl) rfl (ex_move rfl) ?_
  refine JL_bnd fun r1 hr2 => ?_
  refine JL_call (wants_none rfl) rfl Try.call53 rfl (Ca_of0 fun w hh => c_impl_allWithin _ w (fun _ hk => hk.elim) _ _ (hh.rd0 0 rfl) _ _ _ hr2) (fun _ => ?_)
  refine JL_q (wants_none rfl) rfl (ex_assign rfl) ?_
  refine JL_nil ?_
  refine N_then ?_
  refine J_ret ?_
  exact N_ret1 rfl (rv_tmp rfl) (fun w hh => ⟨(), rfl, hh.sel [] rfl⟩)

set_option maxHeartbeats 40000000 in
theorem c_impl_IsWord (A : Nat → Prop) (w : World) (hA : ∀ k, A k → k < w.heap.size) (v0_ : Value) (p0 : (List Int)) (hp0 : Rd A w v0_ p0) (r : Bool) (hr : F_impl_IsWord p0 = some r) :
    Con Try.prog 40 [v0_] A w (fun x_ : Unit => .bool r) (fun x_ => []) := by
  refine Con_of (v := fun (r : Bool) (x_ : Unit) => .bool r) (fs := fun r x_ => []) Try.func40 rfl Try.ntmps40 rfl ((SH.start hA).start_rd rfl hp0) rfl ?_ hr
  unfold F_impl_IsWord
  refine J_seq ?_
  refine J_region ?_
  refine JL_q (wants_none rfl) rfl (ex_assign rfl) ?_
  refine JL_nil ?_
  refine N_then ?_
  refine J_seq ?_
  refine J_region ?_
  refine JL_q (wants_none rfl) rfl (ex_move rfl) ?_
  refine JL_q (wants_none rfl) rfl (ex_len_rd 0 Try.underlying25 rfl rfl) ?_
  refine JL_q (wants_none rfl) rfl (ex_leq rfl rfl) ?_
  refine JL_q (wants_none rfl) rfl (ex_move rfl) ?_
  refine JL_cond (fun h1 => ?_) (fun h1 => ?_)
  · refine JL_q (wants_some rfl rfl rfl h1) rfl (ex_move rfl) ?_
    refine JL_bnd fun r2 hr3 => ?_
    refine JL_call (wants_some rfl rfl rfl h1) rfl Try.call68 rfl (Ca_of0 fun w hh => c_impl_isLetters _ w (fun _ hk => hk.elim) _ _ (hh.rd0 0 rfl) _ hr3) (fun _ => ?_)
    refine JL_q (wants_none rfl) rfl (ex_pick_true rfl h1 rfl) ?_
    refine JL_q (wants_none rfl) rfl (ex_assign rfl) ?_
    refine JL_nil ?_
    refine N_then ?_
    refine J_ret ?_
    exact N_ret1 rfl (rv_tmp rfl) (fun w hh => ⟨(), rfl, hh.sel [] rfl⟩)
  · refine JL_passed rfl rfl rfl h1 ?_
    refine JL_passed rfl rfl rfl h1 ?_
    refine JL_q (wants_none rfl) rfl (ex_pick_false rfl h1 rfl) ?_
    refine JL_q (wants_none rfl) rfl (ex_assign rfl) ?_
    refine JL_nil ?_
    refine N_then ?_
    refine J_ret ?_
    exact N_ret1 rfl (rv_tmp rfl) (fun w hh => ⟨(), rfl, hh.sel [] rfl⟩)

set_option maxHeartbeats 40000000 in
theorem c_impl_areWords_1 (A : Nat → Prop) (w : World) (hA : ∀ k, A k → k < w.heap.size) (v0_ : Value) (p0 : (List Int)) (hp0 : Rd A w v0_ p0) (r : Bool) (hr : F_impl_areWords_1 p0 = some r) :
    Con Try.prog 51 [v0_] A w (fun x_ : Unit => .bool r) (fun x_ => []) := by
  refine Con_of (v := fun (r : Bool) (x_ : Unit) => .bool r) (fs := fun r x_ => []) Try.func51 rfl Try.ntmps51 rfl ((SH.start hA).start_rd rfl hp0) rfl ?_ hr
  unfold F_impl_areWords_1
  refine J_seq ?_
  refine J_region ?_
  refine JL_q (wants_none rfl) rfl (ex_assign rfl) ?_
  refine JL_nil ?_
  refine N_then ?_
  refine J_seq ?_
  refine J_region ?_
  refine JL_q (wants_none rfl) rfl (ex_move rfl) ?_
  refine JL_bnd fun r1 hr2 => ?_
  refine JL_call (wants_none rfl) rfl Try.call40 rfl (Ca_of0 fun w hh => c_impl_IsWord _ w (fun _ hk => hk.elim) _ _ (hh.rd0 0 rfl) _ hr2) (fun _ => ?_)
  refine JL_q (wants_none rfl) rfl (ex_not rfl) ?_
  refine JL_q (wants_none rfl) rfl (ex_assign rfl) ?_
  refine JL_nil ?_
  refine N_then ?_
  refine J_ret ?_
  exact N_ret1 rfl (rv_tmp rfl) (fun w hh => ⟨(), rfl, hh.sel [] rfl⟩)

set_option maxHeartbeats 40000000 in
theorem c_impl_areWords (A : Nat → Prop) (w : World) (hA : ∀ k, A k → k < w.heap.size) (v0_ : Value) (p0 : (List (List Int))) (hp0 : Rd A w v0_ p0) (r : Bool) (hr : F_impl_areWords p0 = some r) :
    Con Try.prog 20 [v0_] A w (fun x_ : Unit => .bool r) (fun x_ => []) := by
  refine Con_of (v := fun (r : Bool) (x_ : Unit) => .bool r) (fs := fun r x_ => []) Try.func20 rfl Try.ntmps20 rfl ((SH.start hA).start_rd rfl hp0) rfl ?_ hr
  unfold F_impl_areWords
  refine J_seq ?_
  refine J_region ?_
  refine JL_q (wants_none rfl) rfl (ex_assign rfl) ?_
  refine JL_nil ?_
  refine N_then ?_
  refine J_seq ?_
  refine J_region ?_
  refine JL_q (wants_none rfl) rfl (ex_move rfl) ?_
  refine JL_bnd fun r1 hr2 => ?_
  refine JL_call (wants_none rfl) rfl Try.call50 rfl (Ca_of0 fun w hh => c_slices_ContainsFunc_SSint64_Sint64 _ w (fun _ hk => hk.elim) _ _ (hh.rd0 0 rfl) _ _ (Clo.mk (caps := []) Try.call51 (fun w_ hb_ v_ x_ r_ hrd_ hr_ => c_impl_areWords_1 nowhere w_ (fun _ hk => hk.elim) v_ x_ hrd_  _ hr_)) _ hr2) (fun _ => ?_)
  refine JL_q (wants_none rfl) rfl (ex_not rfl) ?_
  refine JL_q (wants_none rfl) rfl (ex_assign rfl) ?_
  refine JL_nil ?_
  refine N_then ?_
  refine J_ret ?_
  exact N_ret1 rfl (rv_tmp rfl) (fun w hh => ⟨(), rfl, hh.sel [] rfl⟩)

end Go.Proofs.Ytekeopjhihdmkaa
