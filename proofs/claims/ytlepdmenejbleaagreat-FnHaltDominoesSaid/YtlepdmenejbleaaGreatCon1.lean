/-
  Each function of the program computes what its plain function says: printed by program. No condition.
-/
import Derived.Test.YtlepdmenejbleaaGreatFn
import Derived.Test.YtlepdmenejbleaaGreatInf
namespace Go.Proofs.YtlepdmenejbleaaGreat
open Go Go.Tc Go.Fn
set_option linter.unusedVariables false
set_option maxHeartbeats 40000000 in
theorem c_laws_b10Long (A : Nat → Prop) (w : World) (hA : ∀ k, A k → k < w.heap.size) (v0_ : Value) (p0 : (List (Ik .u8))) (hp0 : Rd A w v0_ p0) (r : Bool) (hr : F_laws_b10Long p0 = some r) :
  Con Tryz.prog 4 [v0_] A w (fun x_ : Unit => .bool r) (fun x_ => []) := by
 refine Con_of (v := fun (r : Bool) (x_ : Unit) => .bool r) (fs := fun r x_ => []) Tryz.func4 rfl Tryz.ntmps4 rfl ((SH.start hA).start_rd rfl hp0) rfl ?_ hr
 unfold F_laws_b10Long
 refine J_sr ?_
 refine JA rfl rfl ?_
 refine JL_nt ?_
 refine J_sr ?_
 refine JM rfl rfl ?_
 refine JL_q wn rfl (ex_len_rd 0 Tryz.underlying22 rfl rfl) ?_
 refine JL_q wn rfl (ex_gtr rfl rfl) ?_
 refine JA rfl rfl ?_
 refine JL_nt ?_
 refine J_ret ?_
 exact N_ret1 rfl (rv_tmp rfl) (fun w hh => ⟨(), rfl, hh.sel [] rfl⟩)
set_option maxHeartbeats 40000000 in
theorem c_spec_l00From (A : Nat → Prop) (w : World) (hA : ∀ k, A k → k < w.heap.size) (v0_ : Value) (p0 : (List (Ik .u8))) (hp0 : Rd A w v0_ p0) (r : ((List (Ik .u8)) × Int × (Ik .u64))) (hr : F_spec_l00From p0 = some r) :
  Con Tryz.prog 19 [v0_] A w (fun x_ : Value × Nat => .pointer (some ⟨x_.2, 0, none⟩)) (fun x_ => [.pr (Sub v0_ p0 x_.1 r.1), .bx x_.2 103 [x_.1, .int .i64 r.2.1, .int .u64 r.2.2.val]]) := by
 refine Con_of (v := fun (r : ((List (Ik .u8)) × Int × (Ik .u64))) (x_ : Value × Nat) => .pointer (some ⟨x_.2, 0, none⟩)) (fs := fun r x_ => [.pr (Sub v0_ p0 x_.1 r.1), .bx x_.2 103 [x_.1, .int .i64 r.2.1, .int .u64 r.2.2.val]]) Tryz.func19 rfl Tryz.ntmps19 rfl ((SH.start hA).start_rd rfl hp0) rfl ?_ hr
 unfold F_spec_l00From
 refine J_sr ?_
 refine JA rfl rfl ?_
 refine JL_nt ?_
 refine J_sr ?_
 refine JM rfl rfl ?_
 refine JL_q wn rfl (ex_build si_103 rfl (.cons fi_103_0 rfl rfl .nil) (fun w hh => ⟨(hh.cv 0 rfl), trivial⟩)) ?_
 refine JL_st wn rfl (st_box' rfl (fun w hh => (cv_aggs ⟨(hh.cv 0 rfl), cv_int, cv_int, trivial⟩))) (fun b1 => ?_)
 refine JA rfl rfl ?_
 refine JL_nt ?_
 refine J_ret ?_
 refine N_ctx (fun w hh => hh.cons_pr (p := Sub v0_ p0 v0_ p0) Sub.refl) ?_
 exact N_ret1 rfl (rv_tmp rfl) (fun w hh => ⟨(v0_, b1), rfl, hh.sel [0, 1] rfl⟩)
set_option maxHeartbeats 40000000 in
theorem c_spec_l00Src_next (w : World) (b0_ : Nat) (p0 : Gl00Src) (v0_0 : Value) (B_ : List Nat) (hB_ : Ctx.owns [.bx b0_ 103 [v0_0, .int .i64 p0.at_, .int .u64 p0.seed.val]] = B_) (hn_ : PHanded w [.bx b0_ 103 [v0_0, .int .i64 p0.at_, .int .u64 p0.seed.val]]) (hp0_0 : Rd (fun k => k ∈ B_) w v0_0 p0.code) (r : (Int) × (Int × (Ik .u64))) (hr : F_spec_l00Src_next p0 = some r) :
  PtrCon Tryz.prog 62 [.pointer (some ⟨b0_, 0, none⟩)] w B_ (fun x_ : Unit => .int .i64 r.1) (fun x_ => [.bx b0_ 103 [v0_0, .int .i64 r.2.1, .int .u64 r.2.2.val]]) := by
 refine PtrCon_of (v := fun (r : (Int) × (Int × (Ik .u64))) (x_ : Unit) => .int .i64 r.1) (fs := fun r x_ => [.bx b0_ 103 [v0_0, .int .i64 r.2.1, .int .u64 r.2.2.val]]) Tryz.func62 rfl Tryz.ntmps62 rfl (show SH nowhere (bare w) w [.rd v0_0 p0.code, .bx b0_ 103 [v0_0, .int .i64 p0.at_, .int .u64 p0.seed.val], .tkn (.int .i64 0) (0 : Int) (restL w B_), rest w B_] from ((SH.begin hB_ hn_).cons_apart hB_ hp0_0)) rfl ?_ hr
 unfold F_spec_l00Src_next
 refine J_sr ?_
 refine JA rfl rfl ?_
 refine JL_nt ?_
 refine J_sr ?_
 refine JA rfl rfl ?_
 refine JL_nt ?_
 refine J_seq ?_
 refine J_cut' (S' := Int) (G' := Unit) (fun s1 _ => [(0, .pointer (some ⟨b0_, 0, none⟩)), (3, .int .i64 s1)]) (fun s1 _ => [rest w B_, .rd v0_0 p0.code, .bx b0_ 103 [v0_0, .int .i64 p0.at_, .int .u64 p0.seed.val], .tkn (.int .i64 0) (0 : Int) (restL w B_)]) ?_ (fun s1 g2 => ?_)
 ·refine J_seq ?_
  refine J_draw [] (by kernel_rfl) ?_
  refine JP_take (i := 0) [0, 1, 2, 3] [] rfl (by kernel_rfl) (by kernel_rfl) (by kernel_rfl) rfl rfl wn rfl (ex_move rfl) ?_
  refine JP_take (i := 1) [0, 1, 2, 3] [] rfl (by kernel_rfl) (by kernel_rfl) (by kernel_rfl) rfl rfl wn rfl (ex_nilCheck rfl) ?_
  refine JP_take (i := 2) [0, 1, 2, 3] [] rfl (by kernel_rfl) (by kernel_rfl) (by kernel_rfl) rfl rfl wn rfl (ex_fieldAddr fi_103_1 rfl rfl) ?_
  refine JP_take (i := 3) [0, 1, 2, 3] [] rfl (by kernel_rfl) (by kernel_rfl) (by kernel_rfl) rfl rfl wn rfl (ex_load_bx 1 ti_3 rfl rfl rfl) ?_
  refine JP_take (i := 4) [0, 1, 2, 3] [] rfl (by kernel_rfl) (by kernel_rfl) (by kernel_rfl) rfl rfl wn rfl (ex_move rfl) ?_
  refine JP_take (i := 5) [0, 1, 2, 3] [] rfl (by kernel_rfl) (by kernel_rfl) (by kernel_rfl) rfl rfl wn rfl (ex_nilCheck rfl) ?_
  refine JP_take (i := 6) [0, 1, 2, 3] [] rfl (by kernel_rfl) (by kernel_rfl) (by kernel_rfl) rfl rfl wn rfl (ex_fieldAddr fi_103_0 rfl rfl) ?_
  refine JP_take (i := 7) [0, 1, 2, 3] [] rfl (by kernel_rfl) (by kernel_rfl) (by kernel_rfl) rfl rfl wn rfl (ex_load_bx 1 ti_22 rfl rfl rfl) ?_
  refine JP_take (i := 8) [0, 1, 2, 3] [] rfl (by kernel_rfl) (by kernel_rfl) (by kernel_rfl) rfl rfl wn rfl (ex_len_rd 0 Tryz.underlying22 rfl rfl) ?_
  refine JP_take (i := 9) [0, 1, 2, 3] [] rfl (by kernel_rfl) (by kernel_rfl) (by kernel_rfl) rfl rfl wn rfl (ex_lss rfl rfl) ?_
  refine JP_go [] [] rfl rfl rfl (fun _ _ _ => ?_)
  refine JD_done (by kernel_rfl) ?_
  refine N_then ?_
  refine J_if rfl (fun h3 => ?_) (fun h3 => ?_)
  ·refine J_draw [] (by kernel_rfl) ?_
   refine JP_take (i := 0) [0, 1, 2, 3] [] rfl (by kernel_rfl) (by kernel_rfl) (by kernel_rfl) rfl rfl wn rfl (ex_move rfl) ?_
   refine JP_take (i := 1) [0, 1, 2, 3] [] rfl (by kernel_rfl) (by kernel_rfl) (by kernel_rfl) rfl rfl wn rfl (ex_nilCheck rfl) ?_
   refine JP_take (i := 2) [0, 1, 2, 3] [] rfl (by kernel_rfl) (by kernel_rfl) (by kernel_rfl) rfl rfl wn rfl (ex_fieldAddr fi_103_0 rfl rfl) ?_
   refine JP_take (i := 3) [0, 1, 2, 3] [] rfl (by kernel_rfl) (by kernel_rfl) (by kernel_rfl) rfl rfl wn rfl (ex_load_bx 1 ti_22 rfl rfl rfl) ?_
   refine JP_take (i := 4) [0, 1, 2, 3] [] rfl (by kernel_rfl) (by kernel_rfl) (by kernel_rfl) rfl rfl wn rfl (ex_move rfl) ?_
   refine JP_take (i := 5) [0, 1, 2, 3] [] rfl (by kernel_rfl) (by kernel_rfl) (by kernel_rfl) rfl rfl wn rfl (ex_nilCheck rfl) ?_
   refine JP_take (i := 6) [0, 1, 2, 3] [] rfl (by kernel_rfl) (by kernel_rfl) (by kernel_rfl) rfl rfl wn rfl (ex_fieldAddr fi_103_1 rfl rfl) ?_
   refine JP_take (i := 7) [0, 1, 2, 3] [] rfl (by kernel_rfl) (by kernel_rfl) (by kernel_rfl) rfl rfl wn rfl (ex_load_bx 1 ti_3 rfl rfl rfl) ?_
   refine JP_bnd fun y4 hy5 => ?_
   refine JP_sq (i := 8) [] rfl (by kernel_rfl) (by kernel_rfl) (by kernel_rfl) rfl wn rfl (sq_index 0 Tryz.underlying22 ti_5 rfl rfl rfl hy5) (fun q6 => ?_)
   refine JP_sq (i := 9) [] rfl (by kernel_rfl) (by kernel_rfl) (by kernel_rfl) rfl wn rfl (sq_load_pt_o 0 (opens_ik _) ti_5 rfl rfl) (fun _ => ?_)
   refine JP_take (i := 10) [0, 1, 2, 3, 4] [] rfl (by kernel_rfl) (by kernel_rfl) (by kernel_rfl) rfl rfl wn rfl (ex_conv_i64 Tryz.underlying5 Tryz.underlying3 rfl) ?_
   refine JP_take (i := 11) [0, 1, 2, 3, 4] [] rfl (by kernel_rfl) (by kernel_rfl) (by kernel_rfl) rfl rfl wn rfl (ex_assign rfl) ?_
   refine JP_go [] [] rfl rfl rfl (fun _ _ _ => ?_)
   refine JD_done (by kernel_rfl) ?_
   exact N_meet' () ⟨rfl, rfl, trivial⟩ [4, 1, 2, 3] rfl rfl
  ·refine J_skip ?_
   exact N_meet' () ⟨rfl, rfl, trivial⟩ [3, 0, 1, 2] rfl rfl
 ·refine N_then ?_
  refine J_sr ?_
  refine JM rfl rfl ?_
  refine JL_q wn rfl (ex_nilCheck rfl) ?_
  refine JL_q wn rfl (ex_fieldAddr fi_103_1 rfl rfl) ?_
  refine JL_q wn rfl (ex_load_bx 2 ti_3 rfl rfl rfl) ?_
  refine JL_q wn rfl (ex_add rfl rfl) ?_
  refine JL_q wn rfl (ex_nilCheck rfl) ?_
  refine JL_q wn rfl (ex_fieldAddr fi_103_1 rfl rfl) ?_
  refine JL_sk wn (sk_store_bx' 2 ti_3 rfl rfl (fun w hh => cv_int) rfl rfl rfl rfl) ?_
  refine JL_nt ?_
  refine J_sr ?_
  refine JM rfl rfl ?_
  refine JM rfl rfl ?_
  refine JL_q wn rfl (ex_nilCheck rfl) ?_
  refine JL_q wn rfl (ex_fieldAddr fi_103_2 rfl rfl) ?_
  refine JL_q wn rfl (ex_load_bx 2 ti_101 rfl rfl rfl) ?_
  refine JL_q wn rfl (ex_mulk rfl rfl) ?_
  refine JM rfl rfl ?_
  refine JL_q wn rfl (ex_conv_ik Tryz.underlying3 Tryz.underlying101 rfl) ?_
  refine JL_q wn rfl (ex_addk rfl rfl) ?_
  refine JL_q wn rfl (ex_addk rfl rfl) ?_
  refine JL_q wn rfl (ex_nilCheck rfl) ?_
  refine JL_q wn rfl (ex_fieldAddr fi_103_2 rfl rfl) ?_
  refine JL_sk wn (sk_store_bx' 2 ti_101 rfl rfl (fun w hh => cv_int) rfl rfl rfl rfl) ?_
  refine JL_nt ?_
  refine J_seq ?_
  refine J_seq ?_
  refine J_draw [] (by kernel_rfl) ?_
  refine JP_take (i := 0) [0, 1, 2, 3] [] rfl (by kernel_rfl) (by kernel_rfl) (by kernel_rfl) rfl rfl wn rfl (ex_move rfl) ?_
  refine JP_take (i := 1) [0, 1, 2, 3] [] rfl (by kernel_rfl) (by kernel_rfl) (by kernel_rfl) rfl rfl wn rfl (ex_nilCheck rfl) ?_
  refine JP_take (i := 2) [0, 1, 2, 3] [] rfl (by kernel_rfl) (by kernel_rfl) (by kernel_rfl) rfl rfl wn rfl (ex_fieldAddr fi_103_1 rfl rfl) ?_
  refine JP_take (i := 3) [0, 1, 2, 3] [] rfl (by kernel_rfl) (by kernel_rfl) (by kernel_rfl) rfl rfl wn rfl (ex_load_bx 2 ti_3 rfl rfl rfl) ?_
  refine JP_take (i := 4) [0, 1, 2, 3] [] rfl (by kernel_rfl) (by kernel_rfl) (by kernel_rfl) rfl rfl wn rfl (ex_move rfl) ?_
  refine JP_take (i := 5) [0, 1, 2, 3] [] rfl (by kernel_rfl) (by kernel_rfl) (by kernel_rfl) rfl rfl wn rfl (ex_nilCheck rfl) ?_
  refine JP_take (i := 6) [0, 1, 2, 3] [] rfl (by kernel_rfl) (by kernel_rfl) (by kernel_rfl) rfl rfl wn rfl (ex_fieldAddr fi_103_0 rfl rfl) ?_
  refine JP_take (i := 7) [0, 1, 2, 3] [] rfl (by kernel_rfl) (by kernel_rfl) (by kernel_rfl) rfl rfl wn rfl (ex_load_bx 2 ti_22 rfl rfl rfl) ?_
  refine JP_take (i := 8) [0, 1, 2, 3] [] rfl (by kernel_rfl) (by kernel_rfl) (by kernel_rfl) rfl rfl wn rfl (ex_len_rd 1 Tryz.underlying22 rfl rfl) ?_
  refine JP_take (i := 9) [0, 1, 2, 3] [] rfl (by kernel_rfl) (by kernel_rfl) (by kernel_rfl) rfl rfl wn rfl (ex_leq rfl rfl) ?_
  refine JP_go [] [] rfl rfl rfl (fun _ _ _ => ?_)
  refine JD_done (by kernel_rfl) ?_
  refine N_then ?_
  refine J_if rfl (fun h8 => ?_) (fun h8 => ?_)
  ·refine J_sr ?_
   refine JM rfl rfl ?_
   refine JA rfl rfl ?_
   refine JL_nt ?_
   refine J_ret ?_
   refine N_then_ret ?_
   exact N_ret1 rfl (rv_tmp rfl) (fun w hh => ⟨(), rfl, hh.sel [2, 3, 0] rfl⟩)
  ·refine J_skip ?_
   refine N_then ?_
   refine J_sr ?_
   refine JM rfl rfl ?_
   refine JL_q wn rfl (ex_nilCheck rfl) ?_
   refine JL_q wn rfl (ex_fieldAddr fi_103_2 rfl rfl) ?_
   refine JL_q wn rfl (ex_load_bx 2 ti_101 rfl rfl rfl) ?_
   refine JL_q wn rfl (ex_shrk rfl rfl (by decide)) ?_
   refine JL_q wn rfl (ex_andk rfl rfl) ?_
   refine JL_q wn rfl (ex_conv_i64 Tryz.underlying101 Tryz.underlying2 rfl) ?_
   refine JA rfl rfl ?_
   refine JL_nt ?_
   refine J_ret ?_
   exact N_ret1 rfl (rv_tmp rfl) (fun w hh => ⟨(), rfl, hh.sel [2, 3, 0] rfl⟩)
set_option maxHeartbeats 40000000 in
theorem c_spec_l00Src_pick (w : World) (b0_ : Nat) (p0 : Gl00Src) (v0_0 : Value) (B_ : List Nat) (hB_ : Ctx.owns [.bx b0_ 103 [v0_0, .int .i64 p0.at_, .int .u64 p0.seed.val]] = B_) (hn_ : PHanded w [.bx b0_ 103 [v0_0, .int .i64 p0.at_, .int .u64 p0.seed.val]]) (hp0_0 : Rd (fun k => k ∈ B_) w v0_0 p0.code) (p1 : Int) (r : (Int) × (Int × (Ik .u64))) (hr : F_spec_l00Src_pick p0 p1 = some r) :
  PtrCon Tryz.prog 21 [.pointer (some ⟨b0_, 0, none⟩), .int .i64 p1] w B_ (fun x_ : Unit => .int .i64 r.1) (fun x_ => [.bx b0_ 103 [v0_0, .int .i64 r.2.1, .int .u64 r.2.2.val]]) := by
 refine PtrCon_of (v := fun (r : (Int) × (Int × (Ik .u64))) (x_ : Unit) => .int .i64 r.1) (fs := fun r x_ => [.bx b0_ 103 [v0_0, .int .i64 r.2.1, .int .u64 r.2.2.val]]) Tryz.func21 rfl Tryz.ntmps21 rfl (show SH nowhere (bare w) w [.rd v0_0 p0.code, .bx b0_ 103 [v0_0, .int .i64 p0.at_, .int .u64 p0.seed.val], .tkn (.int .i64 0) (0 : Int) (restL w B_), rest w B_] from ((SH.begin hB_ hn_).cons_apart hB_ hp0_0)) rfl ?_ hr
 unfold F_spec_l00Src_pick
 refine J_sr ?_
 refine JA rfl rfl ?_
 refine JL_nt ?_
 refine J_seq ?_
 refine J_sr ?_
 refine JM rfl rfl ?_
 refine JL_q wn rfl (ex_leq rfl rfl) ?_
 refine JL_nt ?_
 refine J_if rfl (fun h1 => ?_) (fun h1 => ?_)
 ·refine J_sr ?_
  refine JA rfl rfl ?_
  refine JL_nt ?_
  refine J_ret ?_
  refine N_then_ret ?_
  exact N_ret1 rfl (rv_tmp rfl) (fun w hh => ⟨(), rfl, hh.sel [1, 2, 3] rfl⟩)
 ·refine J_skip ?_
  refine N_then ?_
  refine J_sr ?_
  refine JM rfl rfl ?_
  refine JL_bnd fun r2 hr3 => ?_
  refine JL_callT wn rfl Tryz.call62 rfl (CaT_of [1] [0, 2, 3] rfl rfl (fun _ => rfl) fun w hh => c_spec_l00Src_next w b0_ p0 v0_0 _ rfl (hh.handed [1] rfl rfl rfl rfl) (hh.apart [1] rfl (hh.rd 0 rfl)) _ hr3) (fun _ => ?_)
  refine JA rfl rfl ?_
  refine JL_nt ?_
  refine J_seq ?_
  refine J_sr ?_
  refine JM rfl rfl ?_
  refine JL_q wn rfl (ex_gtr rfl rfl) ?_
  refine JL_nt ?_
  refine J_if rfl (fun h4 => ?_) (fun h4 => ?_)
  ·refine J_region ?_
   refine JM rfl rfl ?_
   refine JL_q wn rfl (ex_mul rfl rfl) ?_
   refine JM rfl rfl ?_
   refine JL_bnd fun r5 hr6 => ?_
   refine JL_callT wn rfl Tryz.call62 rfl (CaT_of [0] [1, 2, 3] rfl rfl (fun _ => rfl) fun w hh => c_spec_l00Src_next w b0_ (⟨p0.code, r2.2.1, r2.2.2⟩ : Gl00Src) v0_0 _ rfl (hh.handed [0] rfl rfl rfl rfl) (hh.apart [0] rfl (hh.rd 1 rfl)) _ hr6) (fun _ => ?_)
   refine JL_q wn rfl (ex_add rfl rfl) ?_
   refine JA rfl rfl ?_
   refine JL_nt ?_
   refine J_sr ?_
   refine JM rfl rfl ?_
   refine JM rfl rfl ?_
   refine JL_bnd fun u7 hu8 => ?_
   refine JL_q wn rfl (ex_rem rfl rfl (nz_ne hu8)) ?_
   refine JA rfl rfl ?_
   refine JL_nt ?_
   refine J_ret ?_
   exact N_ret1 rfl (rv_tmp rfl) (fun w hh => ⟨(), rfl, hh.sel [0, 2, 3] rfl⟩)
  ·refine J_skip ?_
   refine N_then ?_
   refine J_sr ?_
   refine JM rfl rfl ?_
   refine JM rfl rfl ?_
   refine JL_bnd fun u9 hu10 => ?_
   refine JL_q wn rfl (ex_rem rfl rfl (nz_ne hu10)) ?_
   refine JA rfl rfl ?_
   refine JL_nt ?_
   refine J_ret ?_
   exact N_ret1 rfl (rv_tmp rfl) (fun w hh => ⟨(), rfl, hh.sel [0, 2, 3] rfl⟩)
set_option maxHeartbeats 40000000 in
theorem c_spec_l00Src_one (w : World) (b0_ : Nat) (p0 : Gl00Src) (v0_0 : Value) (B_ : List Nat) (hB_ : Ctx.owns [.bx b0_ 103 [v0_0, .int .i64 p0.at_, .int .u64 p0.seed.val]] = B_) (hn_ : PHanded w [.bx b0_ 103 [v0_0, .int .i64 p0.at_, .int .u64 p0.seed.val]]) (hp0_0 : Rd (fun k => k ∈ B_) w v0_0 p0.code) (p1 : Int) (r : (Bool) × (Int × (Ik .u64))) (hr : F_spec_l00Src_one p0 p1 = some r) :
  PtrCon Tryz.prog 60 [.pointer (some ⟨b0_, 0, none⟩), .int .i64 p1] w B_ (fun x_ : Unit => .bool r.1) (fun x_ => [.bx b0_ 103 [v0_0, .int .i64 r.2.1, .int .u64 r.2.2.val]]) := by
 refine PtrCon_of (v := fun (r : (Bool) × (Int × (Ik .u64))) (x_ : Unit) => .bool r.1) (fs := fun r x_ => [.bx b0_ 103 [v0_0, .int .i64 r.2.1, .int .u64 r.2.2.val]]) Tryz.func60 rfl Tryz.ntmps60 rfl (show SH nowhere (bare w) w [.rd v0_0 p0.code, .bx b0_ 103 [v0_0, .int .i64 p0.at_, .int .u64 p0.seed.val], .tkn (.int .i64 0) (0 : Int) (restL w B_), rest w B_] from ((SH.begin hB_ hn_).cons_apart hB_ hp0_0)) rfl ?_ hr
 unfold F_spec_l00Src_one
 refine J_sr ?_
 refine JA rfl rfl ?_
 refine JL_nt ?_
 refine J_sr ?_
 refine JM rfl rfl ?_
 refine JM rfl rfl ?_
 refine JL_bnd fun r1 hr2 => ?_
 refine JL_callT wn rfl Tryz.call21 rfl (CaT_of [1] [0, 2, 3] rfl rfl (fun _ => rfl) fun w hh => c_spec_l00Src_pick w b0_ p0 v0_0 _ rfl (hh.handed [1] rfl rfl rfl rfl) (hh.apart [1] rfl (hh.rd 0 rfl)) _ _ hr2) (fun _ => ?_)
 refine JL_q wn rfl (ex_eql rfl rfl) ?_
 refine JA rfl rfl ?_
 refine JL_nt ?_
 refine J_ret ?_
 exact N_ret1 rfl (rv_tmp rfl) (fun w hh => ⟨(), rfl, hh.sel [0, 2, 3] rfl⟩)
set_option maxHeartbeats 40000000 in
theorem c_spec_l05None (A : Nat → Prop) (w : World) (hA : ∀ k, A k → k < w.heap.size)  (r : GRule) (hr : F_spec_l05None  = some r) :
  Con Tryz.prog 61 [] A w (fun x_ : Unit => .agg #[.int .i64 r.Write, .int .i64 r.Move, .int .i64 r.Next]) (fun x_ => []) := by
 refine Con_of (v := fun (r : GRule) (x_ : Unit) => .agg #[.int .i64 r.Write, .int .i64 r.Move, .int .i64 r.Next]) (fs := fun r x_ => []) Tryz.func61 rfl Tryz.ntmps61 rfl (SH.start hA) rfl ?_ hr
 unfold F_spec_l05None
 refine J_sr ?_
 refine JL_st wn rfl (st_alloc zi_105 rfl) (fun b1 => ?_)
 refine JL_nt ?_
 refine J_sr ?_
 refine JL_q wn rfl (ex_build si_105 rfl (.cons fi_105_2 rfl rfl .nil) (fun w hh => ⟨cv_int, trivial⟩)) ?_
 refine JL_sk wn (sk_store_bx' 0 ti_105 rfl rfl (fun w hh => (cv_aggs ⟨cv_int, cv_int, cv_int, trivial⟩)) rfl rfl rfl rfl) ?_
 refine JL_nt ?_
 refine J_ret ?_
 exact N_ret1 rfl (rv_cell 0 rfl rfl ti_105 rfl) (fun w hh => ⟨(), rfl, hh.sel [] rfl⟩)
set_option maxHeartbeats 40000000 in
theorem c_spec_l05DrawSize (w : World) (b0_ : Nat) (p0 : Gl00Src) (v0_0 : Value) (B_ : List Nat) (hB_ : Ctx.owns [.bx b0_ 103 [v0_0, .int .i64 p0.at_, .int .u64 p0.seed.val]] = B_) (hn_ : PHanded w [.bx b0_ 103 [v0_0, .int .i64 p0.at_, .int .u64 p0.seed.val]]) (hp0_0 : Rd (fun k => k ∈ B_) w v0_0 p0.code) (p1 : Int) (p2 : Int) (r : (GMachine) × (Int × (Ik .u64))) (hr : F_spec_l05DrawSize p0 p1 p2 = some r) :
  PtrCon Tryz.prog 20 [.pointer (some ⟨b0_, 0, none⟩), .int .i64 p1, .int .i64 p2] w B_ (fun x_ : Value => .agg #[.int .i64 r.1.Symbols, .int .i64 r.1.States, x_]) (fun x_ => [.ow 105 x_ r.1.Rules, .bx b0_ 103 [v0_0, .int .i64 r.2.1, .int .u64 r.2.2.val]]) := by
 refine PtrCon_of (v := fun (r : (GMachine) × (Int × (Ik .u64))) (x_ : Value) => .agg #[.int .i64 r.1.Symbols, .int .i64 r.1.States, x_]) (fs := fun r x_ => [.ow 105 x_ r.1.Rules, .bx b0_ 103 [v0_0, .int .i64 r.2.1, .int .u64 r.2.2.val]]) Tryz.func20 rfl Tryz.ntmps20 rfl (show SH nowhere (bare w) w [.rd v0_0 p0.code, .bx b0_ 103 [v0_0, .int .i64 p0.at_, .int .u64 p0.seed.val], .tkn (.int .i64 0) (0 : Int) (restL w B_), rest w B_] from ((SH.begin hB_ hn_).cons_apart hB_ hp0_0)) rfl ?_ hr
 unfold F_spec_l05DrawSize
 refine J_sr ?_
 refine JL_st wn rfl (st_alloc zi_26 rfl) (fun b1 => ?_)
 refine JL_nt ?_
 refine J_sr ?_
 refine JM rfl rfl ?_
 refine JM rfl rfl ?_
 refine JL_q wn rfl (ex_build si_26 rfl (.cons fi_26_0 rfl rfl (.cons fi_26_1 rfl rfl .nil)) (fun w hh => ⟨cv_int, cv_int, trivial⟩)) ?_
 refine JL_st wn rfl (st_alloc zi_26 rfl) (fun b2 => ?_)
 refine JL_sk wn (sk_store_bx' 0 ti_26 rfl rfl (fun w hh => (cv_aggs ⟨cv_int, cv_int, cv_slice, trivial⟩)) rfl rfl rfl rfl) ?_
 refine JL_nt ?_
 refine J_seq ?_
 refine J_sr ?_
 refine JM rfl rfl ?_
 refine JM rfl rfl ?_
 refine JL_q wn rfl (ex_mul rfl rfl) ?_
 refine JA rfl rfl ?_
 refine JL_nt ?_
 refine J_ctx (fun w hh => SH.ow_nil (α := GRule) 105 hh) ?_
 refine J_loop' (S := Int × (Ik .u64) × (List GRule) × Int) (G := Value) (F_spec_l05DrawSize_L1 p0 p1 p2) (fun s3 g4 => [(0, .pointer (some ⟨b0_, 0, none⟩)), (1, .int .i64 p1), (2, .int .i64 p2), (6, .pointer (some ⟨b1, 0, none⟩)), (7, .pointer (some ⟨b2, 0, none⟩)), (8, .int .i64 s3.2.2.2)]) (fun s3 g4 => [rest w B_, .rd v0_0 p0.code, .bx b0_ 103 [v0_0, .int .i64 s3.1, .int .u64 s3.2.1.val], .bx b1 26 [.int .i64 0, .int .i64 0, .slice none 0 0], .ow 105 g4 s3.2.2.1, .bx b2 26 [.int .i64 p1, .int .i64 p2, g4], .tkn (.int .i64 0) (0 : Int) (restL w B_)]) (p0.at_, p0.seed, ([] : (List GRule)), (w64 (p1 * p2))) (.slice none 0 0 : Value) ⟨rfl, rfl, rfl, rfl, rfl, rfl, trivial⟩ [6, 3, 4, 2, 0, 1, 5] rfl rfl (fun s3 g4 => ?_) (fun s3 g4 => ?_)
 ·unfold F_spec_l05DrawSize_L1
  refine J_seq ?_
  refine J_sr ?_
  refine JM rfl rfl ?_
  refine JL_q wn rfl (ex_gtr rfl rfl) ?_
  refine JL_nt ?_
  refine J_if rfl (fun h5 => ?_) (fun h5 => ?_)
  ·refine J_skip ?_
   refine N_then ?_
   refine J_seq ?_
   refine J_block ?_
   refine J_sr ?_
   refine JM rfl rfl ?_
   refine JM rfl rfl ?_
   refine JL_bnd fun r6 hr7 => ?_
   refine JL_callT wn rfl Tryz.call21 rfl (CaT_of [2] [0, 1, 3, 4, 5, 6] rfl rfl (fun _ => rfl) fun w hh => c_spec_l00Src_pick w b0_ (⟨p0.code, s3.1, s3.2.1⟩ : Gl00Src) v0_0 _ rfl (hh.handed [2] rfl rfl rfl rfl) (hh.apart [2] rfl (hh.rd 1 rfl)) _ _ hr7) (fun _ => ?_)
   refine JM rfl rfl ?_
   refine JL_bnd fun r8 hr9 => ?_
   refine JL_callT wn rfl Tryz.call21 rfl (CaT_of [0] [1, 2, 3, 4, 5, 6] rfl rfl (fun _ => rfl) fun w hh => c_spec_l00Src_pick w b0_ (⟨p0.code, r6.2.1, r6.2.2⟩ : Gl00Src) v0_0 _ rfl (hh.handed [0] rfl rfl rfl rfl) (hh.apart [0] rfl (hh.rd 2 rfl)) _ _ hr9) (fun _ => ?_)
   refine JL_q wn rfl (ex_mul rfl rfl) ?_
   refine JL_q wn rfl (ex_sub rfl rfl) ?_
   refine JM rfl rfl ?_
   refine JM rfl rfl ?_
   refine JL_bnd fun r10 hr11 => ?_
   refine JL_callT wn rfl Tryz.call21 rfl (CaT_of [0] [1, 2, 3, 4, 5, 6] rfl rfl (fun _ => rfl) fun w hh => c_spec_l00Src_pick w b0_ (⟨p0.code, r8.2.1, r8.2.2⟩ : Gl00Src) v0_0 _ rfl (hh.handed [0] rfl rfl rfl rfl) (hh.apart [0] rfl (hh.rd 2 rfl)) _ _ hr11) (fun _ => ?_)
   refine JL_q wn rfl (ex_build si_105 rfl (.cons fi_105_0 rfl rfl (.cons fi_105_1 rfl rfl (.cons fi_105_2 rfl rfl .nil))) (fun w hh => ⟨cv_int, cv_int, cv_int, trivial⟩)) ?_
   refine JL_st wn rfl (st_alloc zi_105 rfl) (fun b12 => ?_)
   refine JL_sk wn (sk_store_bx' 0 ti_105 rfl rfl (fun w hh => (cv_aggs ⟨cv_int, cv_int, cv_int, trivial⟩)) rfl rfl rfl rfl) ?_
   refine JL_nt ?_
   refine J_seq ?_
   refine J_sr ?_
   refine JM rfl rfl ?_
   refine JL_bnd fun r13 hr14 => ?_
   refine JL_callT wn rfl Tryz.call60 rfl (CaT_of [1] [0, 2, 3, 4, 5, 6, 7] rfl rfl (fun _ => rfl) fun w hh => c_spec_l00Src_one w b0_ (⟨p0.code, r10.2.1, r10.2.2⟩ : Gl00Src) v0_0 _ rfl (hh.handed [1] rfl rfl rfl rfl) (hh.apart [1] rfl (hh.rd 3 rfl)) _ _ hr14) (fun _ => ?_)
   refine JL_nt ?_
   refine J_if rfl (fun h15 => ?_) (fun h15 => ?_)
   ·refine J_region ?_
    refine JL_bnd fun r16 hr17 => ?_
    refine JL_call wn rfl Tryz.call61 rfl (Ca_of0 fun w hh => c_spec_l05None _ w (fun _ hk => hk.elim)  _ hr17) (fun _ => ?_)
    refine JL_sk wn (sk_store_bx' 1 ti_105 rfl rfl (fun w hh => (cv_aggs ⟨cv_int, cv_int, cv_int, trivial⟩)) rfl rfl rfl rfl) ?_
    refine JL_nt ?_
    refine J_region ?_
    refine JL_q wn rfl (ex_fieldAddr fi_26_2 rfl rfl) ?_
    refine JL_q wn rfl (ex_load_bx 6 ti_24 rfl rfl rfl) ?_
    refine JL_q wn rfl (ex_load_bx_agg 1 ti_105 rfl rfl rfl rfl) ?_
    refine JL_st wn rfl (st_buildSlice (vs := [.agg #[.int .i64 r16.Write, .int .i64 r16.Move, .int .i64 r16.Next]]) ([r16] : List GRule) Tryz.underlying24 ti_105 zi_105 rfl rfl rfl (fun w hh => ⟨(GRule.rdmk (Rd.mk_int _ _ _) (Rd.mk_int _ _ _) (Rd.mk_int _ _ _)), trivial⟩)) (fun b18 => ?_)
    refine JL_bnd fun z19 hz20 => ?_
    refine JL_st wn rfl (st_append 6 Tryz.underlying24 ti_105 zi_105 rfl bi_105 rfl rfl rfl rfl (fun w hh => hh.src_ow 0 rfl) hz20) (fun v21 => ?_)
    refine JL_q wn rfl (ex_fieldAddr fi_26_2 rfl rfl) ?_
    refine JL_sk wn (sk_store_bx' 7 ti_24 rfl rfl (fun w hh => (hh.cv_ow 6 rfl)) rfl rfl rfl rfl) ?_
    refine JL_nil ?_
    refine N_block ?_
    refine N_then ?_
    refine J_region ?_
    refine JM rfl rfl ?_
    refine JL_q wn rfl (ex_sub rfl rfl) ?_
    refine JA rfl rfl ?_
    refine JL_nil ?_
    exact N_next' v21 ⟨rfl, rfl, rfl, rfl, rfl, rfl, trivial⟩ [3, 4, 1, 5, 6, 7, 8] rfl rfl
   ·refine J_skip ?_
    refine N_then ?_
    refine J_region ?_
    refine JL_q wn rfl (ex_fieldAddr fi_26_2 rfl rfl) ?_
    refine JL_q wn rfl (ex_load_bx 6 ti_24 rfl rfl rfl) ?_
    refine JL_q wn rfl (ex_load_bx_agg 1 ti_105 rfl rfl rfl rfl) ?_
    refine JL_st wn rfl (st_buildSlice (vs := [.agg #[.int .i64 r6.1, .int .i64 (w64 ((w64 (2 * r8.1)) - 1)), .int .i64 r10.1]]) ([(⟨r6.1, (w64 ((w64 (2 * r8.1)) - 1)), r10.1⟩ : GRule)] : List GRule) Tryz.underlying24 ti_105 zi_105 rfl rfl rfl (fun w hh => ⟨(GRule.rdmk (Rd.mk_int _ _ _) (Rd.mk_int _ _ _) (Rd.mk_int _ _ _)), trivial⟩)) (fun b22 => ?_)
    refine JL_bnd fun z23 hz24 => ?_
    refine JL_st wn rfl (st_append 6 Tryz.underlying24 ti_105 zi_105 rfl bi_105 rfl rfl rfl rfl (fun w hh => hh.src_ow 0 rfl) hz24) (fun v25 => ?_)
    refine JL_q wn rfl (ex_fieldAddr fi_26_2 rfl rfl) ?_
    refine JL_sk wn (sk_store_bx' 7 ti_24 rfl rfl (fun w hh => (hh.cv_ow 6 rfl)) rfl rfl rfl rfl) ?_
    refine JL_nil ?_
    refine N_block ?_
    refine N_then ?_
    refine J_region ?_
    refine JM rfl rfl ?_
    refine JL_q wn rfl (ex_sub rfl rfl) ?_
    refine JA rfl rfl ?_
    refine JL_nil ?_
    exact N_next' v25 ⟨rfl, rfl, rfl, rfl, rfl, rfl, trivial⟩ [3, 4, 1, 5, 6, 7, 8] rfl rfl
  ·refine J_exit ?_
   refine N_then_exit ?_
   exact N_break' g4 ⟨rfl, rfl, rfl, rfl, rfl, rfl, trivial⟩ [0, 1, 2, 3, 4, 5, 6] rfl rfl
 ·refine N_then ?_
  refine J_sr ?_
  refine JL_q wn rfl (ex_load_bx_agg 5 ti_26 rfl rfl rfl rfl) ?_
  refine JL_sk wn (sk_store_bx' 3 ti_26 rfl rfl (fun w hh => (cv_aggs ⟨cv_int, cv_int, (hh.cv_ow 4 rfl), trivial⟩)) rfl rfl rfl rfl) ?_
  refine JL_nt ?_
  refine J_ret ?_
  exact N_ret1 rfl (rv_cell 3 rfl rfl ti_26 rfl) (fun w hh => ⟨g4, rfl, hh.sel [4, 2, 6, 0] rfl⟩)
set_option maxHeartbeats 40000000 in
theorem c_spec_l00Own (A : Nat → Prop) (w : World) (hA : ∀ k, A k → k < w.heap.size) (v0_ : Value) (p0 : (List Int)) (hp0 : Rd A w v0_ p0) (r : (List Int)) (hr : F_spec_l00Own p0 = some r) :
  Con Tryz.prog 54 [v0_] A w (fun x_ : Value => x_) (fun x_ => [.ow 2 x_ r]) := by
 refine Con_of (v := fun (r : (List Int)) (x_ : Value) => x_) (fs := fun r x_ => [.ow 2 x_ r]) Tryz.func54 rfl Tryz.ntmps54 rfl ((SH.start hA).start_rd rfl hp0) rfl ?_ hr
 unfold F_spec_l00Own
 refine J_sr ?_
 refine JA rfl rfl ?_
 refine JL_nt ?_
 refine J_sr ?_
 refine JL_st wn rfl (st_buildSlice (vs := []) ([] : List Int) Tryz.underlying27 ti_2 zi_2 rfl rfl rfl (fun w hh => trivial)) (fun b1 => ?_)
 refine JM rfl rfl ?_
 refine JL_bnd fun z2 hz3 => ?_
 refine JL_st wn rfl (st_append 0 Tryz.underlying27 ti_2 zi_2 rfl bi_2 rfl rfl rfl rfl (fun w hh => hh.src_rd 1 rfl) hz3) (fun v4 => ?_)
 refine JA rfl rfl ?_
 refine JL_nt ?_
 refine J_ret ?_
 exact N_ret1 rfl (rv_tmp rfl) (fun w hh => ⟨v4, rfl, hh.sel [0] rfl⟩)
set_option maxHeartbeats 40000000 in
theorem c_spec_l05Trim (A : Nat → Prop) (w : World) (hA : ∀ k, A k → k < w.heap.size) (v0_ : Value) (p0 : (List Int)) (hp0 : Rd A w v0_ p0) (r : (List Int)) (hr : F_spec_l05Trim p0 = some r) :
  Con Tryz.prog 22 [v0_] A w (fun x_ : Value => x_) (fun x_ => [.ow 2 x_ r]) := by
 refine Con_of (v := fun (r : (List Int)) (x_ : Value) => x_) (fs := fun r x_ => [.ow 2 x_ r]) Tryz.func22 rfl Tryz.ntmps22 rfl ((SH.start hA).start_rd rfl hp0) rfl ?_ hr
 unfold F_spec_l05Trim
 refine J_sr ?_
 refine JA rfl rfl ?_
 refine JL_nt ?_
 refine J_sr ?_
 refine JM rfl rfl ?_
 refine JL_q wn rfl (ex_len_rd 0 Tryz.underlying27 rfl rfl) ?_
 refine JA rfl rfl ?_
 refine JL_nt ?_
 refine J_seq ?_
 refine J_loop' (S := Int) (G := Unit) (F_spec_l05Trim_L1 p0) (fun s1 _ => [(0, v0_), (3, .int .i64 s1)]) (fun s1 _ => [.rd v0_ p0]) (p0.length : Int) () ⟨rfl, rfl, trivial⟩ [0] rfl rfl (fun s1 g2 => ?_) (fun s1 g2 => ?_)
 ·unfold F_spec_l05Trim_L1
  refine J_seq ?_
  refine J_sr ?_
  refine JM rfl rfl ?_
  refine JL_q wn rfl (ex_gtr rfl rfl) ?_
  refine JM rfl rfl ?_
  refine JL_cond (fun h3 => ?_) (fun h3 => ?_)
  ·refine JL_q (wants_some rfl rfl rfl h3) rfl (ex_move rfl) ?_
   refine JL_q (wants_some rfl rfl rfl h3) rfl (ex_move rfl) ?_
   refine JL_q (wants_some rfl rfl rfl h3) rfl (ex_sub rfl rfl) ?_
   refine JL_bnd fun y4 hy5 => ?_
   refine JL_st (wants_some rfl rfl rfl h3) rfl (st_index 0 Tryz.underlying27 ti_2 rfl rfl rfl hy5) (fun q6 => ?_)
   refine JL_st (wants_some rfl rfl rfl h3) rfl (st_load_pt_o 0 (opens_int _) ti_2 rfl rfl) (fun _ => ?_)
   refine JL_q (wants_some rfl rfl rfl h3) rfl (ex_eql rfl rfl) ?_
   refine JL_q wn rfl (ex_pick_true rfl h3 rfl) ?_
   refine JL_nt ?_
   refine J_if rfl (fun h8 => ?_) (fun h8 => ?_)
   ·refine J_skip ?_
    refine N_then ?_
    refine J_block ?_
    refine J_region ?_
    refine JM rfl rfl ?_
    refine JL_q wn rfl (ex_sub rfl rfl) ?_
    refine JA rfl rfl ?_
    refine JL_nil ?_
    refine N_block ?_
    exact N_next' () ⟨rfl, rfl, trivial⟩ [1] rfl rfl
   ·refine J_exit ?_
    refine N_then_exit ?_
    exact N_break' () ⟨rfl, rfl, trivial⟩ [1] rfl rfl
  ·refine JL_passed rfl rfl rfl h3 ?_
   refine JL_passed rfl rfl rfl h3 ?_
   refine JL_passed rfl rfl rfl h3 ?_
   refine JL_passed rfl rfl rfl h3 ?_
   refine JL_passed rfl rfl rfl h3 ?_
   refine JL_passed rfl rfl rfl h3 ?_
   refine JL_q wn rfl (ex_pick_false rfl h3 rfl) ?_
   refine JL_nt ?_
   refine J_if_false rfl rfl ?_
   refine J_exit ?_
   refine N_then_exit ?_
   exact N_break' () ⟨rfl, rfl, trivial⟩ [0] rfl rfl
 ·refine N_then ?_
  refine J_sr ?_
  refine JM rfl rfl ?_
  refine JM rfl rfl ?_
  refine JL_bnd fun z9 hz10 => ?_
  refine JL_st wn rfl (st_slice 0 Tryz.underlying27 ti_2 rfl rfl rfl rfl hz10) (fun v11 => ?_)
  refine JL_bnd fun r12 hr13 => ?_
  refine JL_call wn rfl Tryz.call54 rfl (Ca_self (fun _ => rfl) fun w hh => c_spec_l00Own _ w (fun _ hk => hk.elim) _ _ (hh.rd0 0 rfl) _ hr13) (fun x14 => ?_)
  refine JA rfl rfl ?_
  refine JL_nt ?_
  refine J_ret ?_
  exact N_ret1 rfl (rv_tmp rfl) (fun w hh => ⟨x14, rfl, hh.sel [0] rfl⟩)
set_option maxHeartbeats 40000000 in
theorem c_spec_B10Small (A : Nat → Prop) (w : World) (hA : ∀ k, A k → k < w.heap.size) (v0_ : Value) (p0 : (List (Ik .u8))) (hp0 : Rd A w v0_ p0) (r : GMachine × GConfig) (hr : F_spec_B10Small p0 = some r) :
  Con Tryz.prog 5 [v0_] A w (fun x_ : Value × Value × Value => .tuple #[.agg #[.int .i64 r.1.Symbols, .int .i64 r.1.States, x_.1], .agg #[.int .i64 r.2.State, x_.2.1, x_.2.2]]) (fun x_ => [.ow 105 x_.1 r.1.Rules, .ow 2 x_.2.1 r.2.Left, .ow 2 x_.2.2 r.2.Right]) := by
 refine Con_of (v := fun (r : GMachine × GConfig) (x_ : Value × Value × Value) => .tuple #[.agg #[.int .i64 r.1.Symbols, .int .i64 r.1.States, x_.1], .agg #[.int .i64 r.2.State, x_.2.1, x_.2.2]]) (fs := fun r x_ => [.ow 105 x_.1 r.1.Rules, .ow 2 x_.2.1 r.2.Left, .ow 2 x_.2.2 r.2.Right]) Tryz.func5 rfl Tryz.ntmps5 rfl ((SH.start hA).start_rd rfl hp0) rfl ?_ hr
 unfold F_spec_B10Small
 refine J_sr ?_
 refine JL_st wn rfl (st_alloc zi_26 rfl) (fun b1 => ?_)
 refine JL_st wn rfl (st_alloc zi_29 rfl) (fun b2 => ?_)
 refine JL_nt ?_
 refine J_sr ?_
 refine JM rfl rfl ?_
 refine JL_bnd fun r3 hr4 => ?_
 refine JL_call wn rfl Tryz.call19 rfl (Ca_self (fun _ => rfl) fun w hh => c_spec_l00From _ w (fun _ hk => hk.elim) _ _ (hh.rd0 2 rfl) _ hr4) (fun x5 => ?_)
 obtain ⟨x5_0, x5_1⟩ := x5
 refine JL_ctx (fun w hh => hh.sub_rd 4 rfl (hh.pr 0 rfl)) ?_
 refine JA rfl rfl ?_
 refine JL_nt ?_
 refine J_sr ?_
 refine JM rfl rfl ?_
 refine JM rfl rfl ?_
 refine JL_bnd fun r6 hr7 => ?_
 refine JL_callT wn rfl Tryz.call21 rfl (CaT_of [2] [0, 1, 3, 4, 5] rfl rfl (fun _ => rfl) fun w hh => c_spec_l00Src_pick w x5_1 (⟨r3.1, r3.2.1, r3.2.2⟩ : Gl00Src) x5_0 _ rfl (hh.handed [2] rfl rfl rfl rfl) (hh.apart [2] rfl (hh.rd 0 rfl)) _ _ hr7) (fun _ => ?_)
 refine JL_q wn rfl (ex_add rfl rfl) ?_
 refine JL_bnd fun r8 hr9 => ?_
 refine JL_callT wn rfl Tryz.call20 rfl (CaT_of [0] [1, 2, 3, 4, 5] rfl rfl (fun _ => rfl) fun w hh => c_spec_l05DrawSize w x5_1 (⟨r3.1, r6.2.1, r6.2.2⟩ : Gl00Src) x5_0 _ rfl (hh.handed [0] rfl rfl rfl rfl) (hh.apart [0] rfl (hh.rd 1 rfl)) _ _ _ hr9) (fun x10 => ?_)
 refine JL_st wn rfl (st_alloc zi_26 rfl) (fun b11 => ?_)
 refine JL_sk wn (sk_store_bx' 0 ti_26 rfl rfl (fun w hh => (cv_aggs ⟨cv_int, cv_int, (hh.cv_ow 1 rfl), trivial⟩)) rfl rfl rfl rfl) ?_
 refine JL_nt ?_
 refine J_sr ?_
 refine JM rfl rfl ?_
 refine JL_q wn rfl (ex_fieldAddr fi_26_1 rfl rfl) ?_
 refine JL_q wn rfl (ex_load_bx 0 ti_2 rfl rfl rfl) ?_
 refine JL_bnd fun r12 hr13 => ?_
 refine JL_callT wn rfl Tryz.call21 rfl (CaT_of [2] [0, 1, 3, 4, 5, 6, 7] rfl rfl (fun _ => rfl) fun w hh => c_spec_l00Src_pick w x5_1 (⟨r3.1, r8.2.1, r8.2.2⟩ : Gl00Src) x5_0 _ rfl (hh.handed [2] rfl rfl rfl rfl) (hh.apart [2] rfl (hh.rd 3 rfl)) _ _ hr13) (fun _ => ?_)
 refine JL_q wn rfl (ex_build si_29 rfl (.cons fi_29_0 rfl rfl .nil) (fun w hh => ⟨cv_int, trivial⟩)) ?_
 refine JL_st wn rfl (st_alloc zi_29 rfl) (fun b14 => ?_)
 refine JL_sk wn (sk_store_bx' 0 ti_29 rfl rfl (fun w hh => (cv_aggs ⟨cv_int, cv_slice, cv_slice, trivial⟩)) rfl rfl rfl rfl) ?_
 refine JL_nt ?_
 refine J_seq ?_
 refine J_sr ?_
 refine JM rfl rfl ?_
 refine JL_bnd fun r15 hr16 => ?_
 refine JL_callT wn rfl Tryz.call21 rfl (CaT_of [1] [0, 2, 3, 4, 5, 6, 7, 8] rfl rfl (fun _ => rfl) fun w hh => c_spec_l00Src_pick w x5_1 (⟨r3.1, r12.2.1, r12.2.2⟩ : Gl00Src) x5_0 _ rfl (hh.handed [1] rfl rfl rfl rfl) (hh.apart [1] rfl (hh.rd 4 rfl)) _ _ hr16) (fun _ => ?_)
 refine JA rfl rfl ?_
 refine JL_nt ?_
 refine J_ctx (fun w hh => SH.ow_nil (α := Int) 2 hh) ?_
 refine J_loop' (S := Int × (Ik .u64) × (List Int) × Int) (G := Value) (F_spec_B10Small_L1 r3) (fun s17 g18 => [(2, .pointer (some ⟨b1, 0, none⟩)), (3, .pointer (some ⟨b2, 0, none⟩)), (4, .pointer (some ⟨x5_1, 0, none⟩)), (5, .pointer (some ⟨b11, 0, none⟩)), (6, .pointer (some ⟨b14, 0, none⟩)), (7, .int .i64 s17.2.2.2)]) (fun s17 g18 => [.bx b1 26 [.int .i64 0, .int .i64 0, .slice none 0 0], .bx b2 29 [.int .i64 0, .slice none 0 0, .slice none 0 0], .rd x5_0 r3.1, .pr (Sub v0_ p0 x5_0 r3.1), .bx x5_1 103 [x5_0, .int .i64 s17.1, .int .u64 s17.2.1.val], .ow 105 x10 r8.1.Rules, .bx b11 26 [.int .i64 r8.1.Symbols, .int .i64 r8.1.States, x10], .ow 2 g18 s17.2.2.1, .bx b14 29 [.int .i64 r12.1, g18, .slice none 0 0]]) (r15.2.1, r15.2.2, ([] : (List Int)), r15.1) (.slice none 0 0 : Value) ⟨rfl, rfl, rfl, rfl, rfl, rfl, trivial⟩ [8, 7, 5, 6, 1, 4, 3, 0, 2] rfl rfl (fun s17 g18 => ?_) (fun s17 g18 => ?_)
 ·unfold F_spec_B10Small_L1
  refine J_seq ?_
  refine J_sr ?_
  refine JM rfl rfl ?_
  refine JL_q wn rfl (ex_gtr rfl rfl) ?_
  refine JL_nt ?_
  refine J_if rfl (fun h19 => ?_) (fun h19 => ?_)
  ·refine J_skip ?_
   refine N_then ?_
   refine J_seq ?_
   refine J_block ?_
   refine J_draw [4, 7, 8] (by kernel_rfl) ?_
   refine JP_take (i := 0) [0, 1, 2, 3, 5, 6] [4, 7, 8] rfl (by kernel_rfl) (by kernel_rfl) (by kernel_rfl) rfl rfl wn rfl (ex_fieldAddr fi_29_1 rfl rfl) ?_
   refine JP_take (i := 2) [0, 1, 2, 3, 5, 6] [4, 7, 8] rfl (by kernel_rfl) (by kernel_rfl) (by kernel_rfl) rfl rfl wn rfl (ex_move rfl) ?_
   refine JP_go [0, 1, 2, 3, 5, 6] [4, 7, 8] rfl rfl rfl (fun w21 h1_22 hp20 => ?_)
   refine JD_bnd fun r23 hr24 => ?_
   refine JD_two (i := 1) (j := 3) (by kernel_rfl) ?_ ?_
   ·refine JO_q rfl wn rfl (ex_load_bx 8 ti_27 rfl rfl rfl) ?_
    refine JD_one (i := 3) (by kernel_rfl) ?_
    refine JO_callT rfl wn rfl Tryz.call21 rfl (CaT_of [4] [0, 1, 2, 3, 5, 6, 7, 8] rfl rfl (fun _ => rfl) fun w hh => c_spec_l00Src_pick w x5_1 (⟨r3.1, s17.1, s17.2.1⟩ : Gl00Src) x5_0 _ rfl (hh.handed [4] rfl rfl rfl rfl) (hh.apart [4] rfl (hh.rd 2 rfl)) _ _ hr24) (sub_bx 0 rfl) (fun _ => ?_)
    refine JD_one (i := 4) (by kernel_rfl) ?_
    refine JO_st rfl wn rfl (st_buildSlice (vs := [.int .i64 r23.1]) ([r23.1] : List Int) Tryz.underlying27 ti_2 zi_2 rfl rfl rfl (fun w hh => ⟨(Rd.mk_int _ _ _), trivial⟩)) (fun _ hk => nomatch hk) (fun b25 => ?_)
    refine JD_bnd fun z26 hz27 => ?_
    refine JD_one (i := 5) (by kernel_rfl) ?_
    refine JO_st rfl wn rfl (st_append 8 Tryz.underlying27 ti_2 zi_2 rfl bi_2 rfl rfl rfl rfl (fun w hh => hh.src_ow 0 rfl) hz27) (sub_ow 1 rfl) (fun v28 => ?_)
    refine JD_take (i := 6) hp20 rfl (by kernel_rfl) (by kernel_rfl) (by kernel_rfl) wn rfl (ex_fieldAddr fi_29_1 rfl rfl) ?_
    refine JD_one (i := 7) (by kernel_rfl) ?_
    refine JO_sk rfl wn (sk_store_bx' 9 ti_27 rfl rfl (fun w hh => (hh.cv_ow 8 rfl)) rfl rfl rfl rfl) (sub_bx 2 rfl) ?_
    refine JD_done (by kernel_rfl) ?_
    refine N_block ?_
    refine N_then ?_
    refine J_region ?_
    refine JM rfl rfl ?_
    refine JL_q wn rfl (ex_sub rfl rfl) ?_
    refine JA rfl rfl ?_
    refine JL_nil ?_
    exact N_next' v28 ⟨rfl, rfl, rfl, rfl, rfl, rfl, trivial⟩ [2, 3, 4, 5, 1, 6, 7, 8, 9] rfl rfl
   ·refine JO_callT rfl wn rfl Tryz.call21 rfl (CaT_of [4] [0, 1, 2, 3, 5, 6, 7, 8] rfl rfl (fun _ => rfl) fun w hh => c_spec_l00Src_pick w x5_1 (⟨r3.1, s17.1, s17.2.1⟩ : Gl00Src) x5_0 _ rfl (hh.handed [4] rfl rfl rfl rfl) (hh.apart [4] rfl (hh.rd 2 rfl)) _ _ hr24) (sub_bx 0 rfl) (fun _ => ?_)
    refine JD_two (i := 1) (j := 4) (by kernel_rfl) ?_ ?_
    ·refine JO_q rfl wn rfl (ex_load_bx 8 ti_27 rfl rfl rfl) ?_
     refine JD_one (i := 4) (by kernel_rfl) ?_
     refine JO_st rfl wn rfl (st_buildSlice (vs := [.int .i64 r23.1]) ([r23.1] : List Int) Tryz.underlying27 ti_2 zi_2 rfl rfl rfl (fun w hh => ⟨(Rd.mk_int _ _ _), trivial⟩)) (fun _ hk => nomatch hk) (fun b29 => ?_)
     refine JD_bnd fun z30 hz31 => ?_
     refine JD_one (i := 5) (by kernel_rfl) ?_
     refine JO_st rfl wn rfl (st_append 8 Tryz.underlying27 ti_2 zi_2 rfl bi_2 rfl rfl rfl rfl (fun w hh => hh.src_ow 0 rfl) hz31) (sub_ow 1 rfl) (fun v32 => ?_)
     refine JD_take (i := 6) hp20 rfl (by kernel_rfl) (by kernel_rfl) (by kernel_rfl) wn rfl (ex_fieldAddr fi_29_1 rfl rfl) ?_
     refine JD_one (i := 7) (by kernel_rfl) ?_
     refine JO_sk rfl wn (sk_store_bx' 9 ti_27 rfl rfl (fun w hh => (hh.cv_ow 8 rfl)) rfl rfl rfl rfl) (sub_bx 2 rfl) ?_
     refine JD_done (by kernel_rfl) ?_
     refine N_block ?_
     refine N_then ?_
     refine J_region ?_
     refine JM rfl rfl ?_
     refine JL_q wn rfl (ex_sub rfl rfl) ?_
     refine JA rfl rfl ?_
     refine JL_nil ?_
     exact N_next' v32 ⟨rfl, rfl, rfl, rfl, rfl, rfl, trivial⟩ [2, 3, 4, 5, 1, 6, 7, 8, 9] rfl rfl
    ·refine JO_st rfl wn rfl (st_buildSlice (vs := [.int .i64 r23.1]) ([r23.1] : List Int) Tryz.underlying27 ti_2 zi_2 rfl rfl rfl (fun w hh => ⟨(Rd.mk_int _ _ _), trivial⟩)) (fun _ hk => nomatch hk) (fun b33 => ?_)
     refine JD_one (i := 1) (by kernel_rfl) ?_
     refine JO_q rfl wn rfl (ex_load_bx 9 ti_27 rfl rfl rfl) ?_
     refine JD_bnd fun z34 hz35 => ?_
     refine JD_one (i := 5) (by kernel_rfl) ?_
     refine JO_st rfl wn rfl (st_append 8 Tryz.underlying27 ti_2 zi_2 rfl bi_2 rfl rfl rfl rfl (fun w hh => hh.src_ow 0 rfl) hz35) (sub_ow 1 rfl) (fun v36 => ?_)
     refine JD_take (i := 6) hp20 rfl (by kernel_rfl) (by kernel_rfl) (by kernel_rfl) wn rfl (ex_fieldAddr fi_29_1 rfl rfl) ?_
     refine JD_one (i := 7) (by kernel_rfl) ?_
     refine JO_sk rfl wn (sk_store_bx' 9 ti_27 rfl rfl (fun w hh => (hh.cv_ow 8 rfl)) rfl rfl rfl rfl) (sub_bx 2 rfl) ?_
     refine JD_done (by kernel_rfl) ?_
     refine N_block ?_
     refine N_then ?_
     refine J_region ?_
     refine JM rfl rfl ?_
     refine JL_q wn rfl (ex_sub rfl rfl) ?_
     refine JA rfl rfl ?_
     refine JL_nil ?_
     exact N_next' v36 ⟨rfl, rfl, rfl, rfl, rfl, rfl, trivial⟩ [2, 3, 4, 5, 1, 6, 7, 8, 9] rfl rfl
  ·refine J_exit ?_
   refine N_then_exit ?_
   exact N_break' g18 ⟨rfl, rfl, rfl, rfl, rfl, rfl, trivial⟩ [0, 1, 2, 3, 4, 5, 6, 7, 8] rfl rfl
 ·refine N_then ?_
  refine J_seq ?_
  refine J_sr ?_
  refine JM rfl rfl ?_
  refine JL_bnd fun r37 hr38 => ?_
  refine JL_callT wn rfl Tryz.call21 rfl (CaT_of [4] [0, 1, 2, 3, 5, 6, 7, 8] rfl rfl (fun _ => rfl) fun w hh => c_spec_l00Src_pick w x5_1 (⟨r3.1, s17.1, s17.2.1⟩ : Gl00Src) x5_0 _ rfl (hh.handed [4] rfl rfl rfl rfl) (hh.apart [4] rfl (hh.rd 2 rfl)) _ _ hr38) (fun _ => ?_)
  refine JA rfl rfl ?_
  refine JL_nt ?_
  refine J_ctx (fun w hh => SH.ow_nil (α := Int) 2 hh) ?_
  refine J_loop' (S := Int × (Ik .u64) × (List Int) × Int) (G := Value) (F_spec_B10Small_L2 r3) (fun s39 g40 => [(2, .pointer (some ⟨b1, 0, none⟩)), (3, .pointer (some ⟨b2, 0, none⟩)), (4, .pointer (some ⟨x5_1, 0, none⟩)), (5, .pointer (some ⟨b11, 0, none⟩)), (6, .pointer (some ⟨b14, 0, none⟩)), (8, .int .i64 s39.2.2.2)]) (fun s39 g40 => [.bx b1 26 [.int .i64 0, .int .i64 0, .slice none 0 0], .bx b2 29 [.int .i64 0, .slice none 0 0, .slice none 0 0], .rd x5_0 r3.1, .pr (Sub v0_ p0 x5_0 r3.1), .bx x5_1 103 [x5_0, .int .i64 s39.1, .int .u64 s39.2.1.val], .ow 105 x10 r8.1.Rules, .bx b11 26 [.int .i64 r8.1.Symbols, .int .i64 r8.1.States, x10], .ow 2 g18 s17.2.2.1, .ow 2 g40 s39.2.2.1, .bx b14 29 [.int .i64 r12.1, g18, g40]]) (r37.2.1, r37.2.2, ([] : (List Int)), r37.1) (.slice none 0 0 : Value) ⟨rfl, rfl, rfl, rfl, rfl, rfl, trivial⟩ [2, 3, 4, 5, 1, 6, 7, 8, 0, 9] rfl rfl (fun s39 g40 => ?_) (fun s39 g40 => ?_)
  ·unfold F_spec_B10Small_L2
   refine J_seq ?_
   refine J_sr ?_
   refine JM rfl rfl ?_
   refine JL_q wn rfl (ex_gtr rfl rfl) ?_
   refine JL_nt ?_
   refine J_if rfl (fun h41 => ?_) (fun h41 => ?_)
   ·refine J_skip ?_
    refine N_then ?_
    refine J_seq ?_
    refine J_block ?_
    refine J_draw [4, 8, 9] (by kernel_rfl) ?_
    refine JP_take (i := 0) [0, 1, 2, 3, 5, 6, 7] [4, 8, 9] rfl (by kernel_rfl) (by kernel_rfl) (by kernel_rfl) rfl rfl wn rfl (ex_fieldAddr fi_29_2 rfl rfl) ?_
    refine JP_take (i := 2) [0, 1, 2, 3, 5, 6, 7] [4, 8, 9] rfl (by kernel_rfl) (by kernel_rfl) (by kernel_rfl) rfl rfl wn rfl (ex_move rfl) ?_
    refine JP_go [0, 1, 2, 3, 5, 6, 7] [4, 8, 9] rfl rfl rfl (fun w43 h1_44 hp42 => ?_)
    refine JD_bnd fun r45 hr46 => ?_
    refine JD_two (i := 1) (j := 3) (by kernel_rfl) ?_ ?_
    ·refine JO_q rfl wn rfl (ex_load_bx 9 ti_27 rfl rfl rfl) ?_
     refine JD_one (i := 3) (by kernel_rfl) ?_
     refine JO_callT rfl wn rfl Tryz.call21 rfl (CaT_of [4] [0, 1, 2, 3, 5, 6, 7, 8, 9] rfl rfl (fun _ => rfl) fun w hh => c_spec_l00Src_pick w x5_1 (⟨r3.1, s39.1, s39.2.1⟩ : Gl00Src) x5_0 _ rfl (hh.handed [4] rfl rfl rfl rfl) (hh.apart [4] rfl (hh.rd 2 rfl)) _ _ hr46) (sub_bx 0 rfl) (fun _ => ?_)
     refine JD_one (i := 4) (by kernel_rfl) ?_
     refine JO_st rfl wn rfl (st_buildSlice (vs := [.int .i64 r45.1]) ([r45.1] : List Int) Tryz.underlying27 ti_2 zi_2 rfl rfl rfl (fun w hh => ⟨(Rd.mk_int _ _ _), trivial⟩)) (fun _ hk => nomatch hk) (fun b47 => ?_)
     refine JD_bnd fun z48 hz49 => ?_
     refine JD_one (i := 5) (by kernel_rfl) ?_
     refine JO_st rfl wn rfl (st_append 9 Tryz.underlying27 ti_2 zi_2 rfl bi_2 rfl rfl rfl rfl (fun w hh => hh.src_ow 0 rfl) hz49) (sub_ow 1 rfl) (fun v50 => ?_)
     refine JD_take (i := 6) hp42 rfl (by kernel_rfl) (by kernel_rfl) (by kernel_rfl) wn rfl (ex_fieldAddr fi_29_2 rfl rfl) ?_
     refine JD_one (i := 7) (by kernel_rfl) ?_
     refine JO_sk rfl wn (sk_store_bx' 10 ti_27 rfl rfl (fun w hh => (hh.cv_ow 9 rfl)) rfl rfl rfl rfl) (sub_bx 2 rfl) ?_
     refine JD_done (by kernel_rfl) ?_
     refine N_block ?_
     refine N_then ?_
     refine J_region ?_
     refine JM rfl rfl ?_
     refine JL_q wn rfl (ex_sub rfl rfl) ?_
     refine JA rfl rfl ?_
     refine JL_nil ?_
     exact N_next' v50 ⟨rfl, rfl, rfl, rfl, rfl, rfl, trivial⟩ [2, 3, 4, 5, 1, 6, 7, 8, 9, 10] rfl rfl
    ·refine JO_callT rfl wn rfl Tryz.call21 rfl (CaT_of [4] [0, 1, 2, 3, 5, 6, 7, 8, 9] rfl rfl (fun _ => rfl) fun w hh => c_spec_l00Src_pick w x5_1 (⟨r3.1, s39.1, s39.2.1⟩ : Gl00Src) x5_0 _ rfl (hh.handed [4] rfl rfl rfl rfl) (hh.apart [4] rfl (hh.rd 2 rfl)) _ _ hr46) (sub_bx 0 rfl) (fun _ => ?_)
     refine JD_two (i := 1) (j := 4) (by kernel_rfl) ?_ ?_
     ·refine JO_q rfl wn rfl (ex_load_bx 9 ti_27 rfl rfl rfl) ?_
      refine JD_one (i := 4) (by kernel_rfl) ?_
      refine JO_st rfl wn rfl (st_buildSlice (vs := [.int .i64 r45.1]) ([r45.1] : List Int) Tryz.underlying27 ti_2 zi_2 rfl rfl rfl (fun w hh => ⟨(Rd.mk_int _ _ _), trivial⟩)) (fun _ hk => nomatch hk) (fun b51 => ?_)
      refine JD_bnd fun z52 hz53 => ?_
      refine JD_one (i := 5) (by kernel_rfl) ?_
      refine JO_st rfl wn rfl (st_append 9 Tryz.underlying27 ti_2 zi_2 rfl bi_2 rfl rfl rfl rfl (fun w hh => hh.src_ow 0 rfl) hz53) (sub_ow 1 rfl) (fun v54 => ?_)
      refine JD_take (i := 6) hp42 rfl (by kernel_rfl) (by kernel_rfl) (by kernel_rfl) wn rfl (ex_fieldAddr fi_29_2 rfl rfl) ?_
      refine JD_one (i := 7) (by kernel_rfl) ?_
      refine JO_sk rfl wn (sk_store_bx' 10 ti_27 rfl rfl (fun w hh => (hh.cv_ow 9 rfl)) rfl rfl rfl rfl) (sub_bx 2 rfl) ?_
      refine JD_done (by kernel_rfl) ?_
      refine N_block ?_
      refine N_then ?_
      refine J_region ?_
      refine JM rfl rfl ?_
      refine JL_q wn rfl (ex_sub rfl rfl) ?_
      refine JA rfl rfl ?_
      refine JL_nil ?_
      exact N_next' v54 ⟨rfl, rfl, rfl, rfl, rfl, rfl, trivial⟩ [2, 3, 4, 5, 1, 6, 7, 8, 9, 10] rfl rfl
     ·refine JO_st rfl wn rfl (st_buildSlice (vs := [.int .i64 r45.1]) ([r45.1] : List Int) Tryz.underlying27 ti_2 zi_2 rfl rfl rfl (fun w hh => ⟨(Rd.mk_int _ _ _), trivial⟩)) (fun _ hk => nomatch hk) (fun b55 => ?_)
      refine JD_one (i := 1) (by kernel_rfl) ?_
      refine JO_q rfl wn rfl (ex_load_bx 10 ti_27 rfl rfl rfl) ?_
      refine JD_bnd fun z56 hz57 => ?_
      refine JD_one (i := 5) (by kernel_rfl) ?_
      refine JO_st rfl wn rfl (st_append 9 Tryz.underlying27 ti_2 zi_2 rfl bi_2 rfl rfl rfl rfl (fun w hh => hh.src_ow 0 rfl) hz57) (sub_ow 1 rfl) (fun v58 => ?_)
      refine JD_take (i := 6) hp42 rfl (by kernel_rfl) (by kernel_rfl) (by kernel_rfl) wn rfl (ex_fieldAddr fi_29_2 rfl rfl) ?_
      refine JD_one (i := 7) (by kernel_rfl) ?_
      refine JO_sk rfl wn (sk_store_bx' 10 ti_27 rfl rfl (fun w hh => (hh.cv_ow 9 rfl)) rfl rfl rfl rfl) (sub_bx 2 rfl) ?_
      refine JD_done (by kernel_rfl) ?_
      refine N_block ?_
      refine N_then ?_
      refine J_region ?_
      refine JM rfl rfl ?_
      refine JL_q wn rfl (ex_sub rfl rfl) ?_
      refine JA rfl rfl ?_
      refine JL_nil ?_
      exact N_next' v58 ⟨rfl, rfl, rfl, rfl, rfl, rfl, trivial⟩ [2, 3, 4, 5, 1, 6, 7, 8, 9, 10] rfl rfl
   ·refine J_exit ?_
    refine N_then_exit ?_
    exact N_break' g40 ⟨rfl, rfl, rfl, rfl, rfl, rfl, trivial⟩ [0, 1, 2, 3, 4, 5, 6, 7, 8, 9] rfl rfl
  ·refine N_then ?_
   refine J_sr ?_
   refine JL_q wn rfl (ex_fieldAddr fi_29_1 rfl rfl) ?_
   refine JL_q wn rfl (ex_load_bx 9 ti_27 rfl rfl rfl) ?_
   refine JL_bnd fun r59 hr60 => ?_
   refine JL_call wn rfl Tryz.call22 rfl (Ca_self (fun _ => rfl) fun w hh => c_spec_l05Trim _ w (fun _ hk => hk.elim) _ _ (hh.ow0 7 rfl) _ hr60) (fun x61 => ?_)
   refine JL_q wn rfl (ex_fieldAddr fi_29_1 rfl rfl) ?_
   refine JL_sk wn (sk_store_bx' 10 ti_27 rfl rfl (fun w hh => (hh.cv_ow 0 rfl)) rfl rfl rfl rfl) ?_
   refine JL_nt ?_
   refine J_sr ?_
   refine JL_q wn rfl (ex_fieldAddr fi_29_2 rfl rfl) ?_
   refine JL_q wn rfl (ex_load_bx 10 ti_27 rfl rfl rfl) ?_
   refine JL_bnd fun r62 hr63 => ?_
   refine JL_call wn rfl Tryz.call22 rfl (Ca_self (fun _ => rfl) fun w hh => c_spec_l05Trim _ w (fun _ hk => hk.elim) _ _ (hh.ow0 9 rfl) _ hr63) (fun x64 => ?_)
   refine JL_q wn rfl (ex_fieldAddr fi_29_2 rfl rfl) ?_
   refine JL_sk wn (sk_store_bx' 11 ti_27 rfl rfl (fun w hh => (hh.cv_ow 0 rfl)) rfl rfl rfl rfl) ?_
   refine JL_nt ?_
   refine J_seq ?_
   refine J_draw [2, 3] (by kernel_rfl) ?_
   refine JP_take (i := 0) [0, 1, 4, 5, 6, 7, 8, 9, 10, 11] [2, 3] rfl (by kernel_rfl) (by kernel_rfl) (by kernel_rfl) rfl rfl wn rfl (ex_load_bx_agg 6 ti_26 rfl rfl rfl rfl) ?_
   refine JP_take (i := 1) [0, 1, 4, 5, 6, 7, 8, 9, 10, 11] [2, 3] rfl (by kernel_rfl) (by kernel_rfl) (by kernel_rfl) rfl rfl wn rfl (ex_load_bx_agg 9 ti_29 rfl rfl rfl rfl) ?_
   refine JP_go [0, 1, 4, 5, 6, 7, 8, 9, 10, 11] [2, 3] rfl rfl rfl (fun w66 h1_67 hp65 => ?_)
   refine JD_one (i := 2) (by kernel_rfl) ?_
   refine JO_sk rfl wn (sk_store_bx' 2 ti_26 rfl rfl (fun w hh => (cv_aggs ⟨cv_int, cv_int, (hh.cv_ow 7 rfl), trivial⟩)) rfl rfl rfl rfl) (sub_bx 0 rfl) ?_
   refine JD_one (i := 3) (by kernel_rfl) ?_
   refine JO_sk rfl wn (sk_store_bx' 3 ti_29 rfl rfl (fun w hh => (cv_aggs ⟨cv_int, (hh.cv_ow 1 rfl), (hh.cv_ow 0 rfl), trivial⟩)) rfl rfl rfl rfl) (sub_bx 1 rfl) ?_
   refine JD_done (by kernel_rfl) ?_
   refine N_then ?_
   refine J_ret ?_
   exact N_ret2 rfl (rv_cell 2 rfl rfl ti_26 rfl) (rv_cell 3 rfl rfl ti_29 rfl) (fun w hh => ⟨(x10, x61, x64), rfl, hh.sel [7, 1, 0] rfl⟩)
set_option maxHeartbeats 40000000 in
theorem c_impl_within (A : Nat → Prop) (w : World) (hA : ∀ k, A k → k < w.heap.size) (p0 : Int) (p1 : Int) (p2 : Int) (r : Bool) (hr : F_impl_within p0 p1 p2 = some r) :
  Con Tryz.prog 64 [.int .i64 p0, .int .i64 p1, .int .i64 p2] A w (fun x_ : Unit => .bool r) (fun x_ => []) := by
 refine Con_of (v := fun (r : Bool) (x_ : Unit) => .bool r) (fs := fun r x_ => []) Tryz.func64 rfl Tryz.ntmps64 rfl (SH.start hA) rfl ?_ hr
 unfold F_impl_within
 refine J_sr ?_
 refine JA rfl rfl ?_
 refine JL_nt ?_
 refine J_sr ?_
 refine JM rfl rfl ?_
 refine JM rfl rfl ?_
 refine JL_q wn rfl (ex_leq rfl rfl) ?_
 refine JM rfl rfl ?_
 refine JL_cond (fun h1 => ?_) (fun h1 => ?_)
 ·refine JL_q (wants_some rfl rfl rfl h1) rfl (ex_move rfl) ?_
  refine JL_q (wants_some rfl rfl rfl h1) rfl (ex_move rfl) ?_
  refine JL_q (wants_some rfl rfl rfl h1) rfl (ex_leq rfl rfl) ?_
  refine JL_q wn rfl (ex_pick_true rfl h1 rfl) ?_
  refine JA rfl rfl ?_
  refine JL_nt ?_
  refine J_ret ?_
  exact N_ret1 rfl (rv_tmp rfl) (fun w hh => ⟨(), rfl, hh.sel [] rfl⟩)
 ·refine JL_passed rfl rfl rfl h1 ?_
  refine JL_passed rfl rfl rfl h1 ?_
  refine JL_passed rfl rfl rfl h1 ?_
  refine JL_q wn rfl (ex_pick_false rfl h1 rfl) ?_
  refine JA rfl rfl ?_
  refine JL_nt ?_
  refine J_ret ?_
  exact N_ret1 rfl (rv_tmp rfl) (fun w hh => ⟨(), rfl, hh.sel [] rfl⟩)
set_option maxHeartbeats 40000000 in
theorem c_impl_size_impl_Rule (A : Nat → Prop) (w : World) (hA : ∀ k, A k → k < w.heap.size) (v0_ : Value) (p0 : (List GRule)) (hp0 : Rd A w v0_ p0) (r : Int) (hr : F_impl_size_impl_Rule p0 = some r) :
  Con Tryz.prog 68 [v0_] A w (fun x_ : Unit => .int .i64 r) (fun x_ => []) := by
 refine Con_of (v := fun (r : Int) (x_ : Unit) => .int .i64 r) (fs := fun r x_ => []) Tryz.func68 rfl Tryz.ntmps68 rfl ((SH.start hA).start_rd rfl hp0) rfl ?_ hr
 unfold F_impl_size_impl_Rule
 refine J_sr ?_
 refine JA rfl rfl ?_
 refine JL_nt ?_
 refine J_sr ?_
 refine JM rfl rfl ?_
 refine JL_q wn rfl (ex_len_rd 0 Tryz.underlying24 rfl rfl) ?_
 refine JA rfl rfl ?_
 refine JL_nt ?_
 refine J_ret ?_
 exact N_ret1 rfl (rv_tmp rfl) (fun w hh => ⟨(), rfl, hh.sel [] rfl⟩)
set_option maxHeartbeats 40000000 in
theorem c_impl_noRule (A : Nat → Prop) (w : World) (hA : ∀ k, A k → k < w.heap.size)  (r : GRule) (hr : F_impl_noRule  = some r) :
  Con Tryz.prog 124 [] A w (fun x_ : Unit => .agg #[.int .i64 r.Write, .int .i64 r.Move, .int .i64 r.Next]) (fun x_ => []) := by
 refine Con_of (v := fun (r : GRule) (x_ : Unit) => .agg #[.int .i64 r.Write, .int .i64 r.Move, .int .i64 r.Next]) (fs := fun r x_ => []) Tryz.func124 rfl Tryz.ntmps124 rfl (SH.start hA) rfl ?_ hr
 unfold F_impl_noRule
 refine J_sr ?_
 refine JL_st wn rfl (st_alloc zi_105 rfl) (fun b1 => ?_)
 refine JL_nt ?_
 refine J_sr ?_
 refine JL_q wn rfl (ex_build si_105 rfl (.cons fi_105_2 rfl rfl .nil) (fun w hh => ⟨cv_int, trivial⟩)) ?_
 refine JL_sk wn (sk_store_bx' 0 ti_105 rfl rfl (fun w hh => (cv_aggs ⟨cv_int, cv_int, cv_int, trivial⟩)) rfl rfl rfl rfl) ?_
 refine JL_nt ?_
 refine J_ret ?_
 exact N_ret1 rfl (rv_cell 0 rfl rfl ti_105 rfl) (fun w hh => ⟨(), rfl, hh.sel [] rfl⟩)
set_option maxHeartbeats 40000000 in
theorem c_impl_isRule (A : Nat → Prop) (w : World) (hA : ∀ k, A k → k < w.heap.size) (v0_ : Value) (p0 : GRule) (hp0 : Rd A w v0_ p0) (r : Bool) (hr : F_impl_isRule p0 = some r) :
  Con Tryz.prog 110 [v0_] A w (fun x_ : Unit => .bool r) (fun x_ => []) := by
 obtain rfl := GRule.open hp0
 refine Con_of (v := fun (r : Bool) (x_ : Unit) => .bool r) (fs := fun r x_ => []) Tryz.func110 rfl Tryz.ntmps110 rfl (SH.start hA) rfl ?_ hr
 unfold F_impl_isRule
 refine J_sr ?_
 refine JL_st wn rfl (st_box' rfl (fun w hh => (cv_aggs ⟨cv_int, cv_int, cv_int, trivial⟩))) (fun b1 => ?_)
 refine JA rfl rfl ?_
 refine JL_nt ?_
 refine J_seq ?_
 refine J_draw [] (by kernel_rfl) ?_
 refine JP_take (i := 0) [0] [] rfl (by kernel_rfl) (by kernel_rfl) (by kernel_rfl) rfl rfl wn rfl (ex_load_bx_agg 0 ti_105 rfl rfl rfl rfl) ?_
 refine JP_go [0] [] rfl rfl rfl (fun w3 h1_4 hp2 => ?_)
 refine JD_bnd fun r5 hr6 => ?_
 refine JD_one (i := 1) (by kernel_rfl) ?_
 refine JO_call rfl wn rfl Tryz.call124 rfl (Ca_of0 fun w hh => c_impl_noRule _ w (fun _ hk => hk.elim)  _ hr6) (fun _ => ?_)
 refine JD_take (i := 2) hp2 rfl (by kernel_rfl) (by kernel_rfl) (by kernel_rfl) wn rfl (ex_neq_seq_105 rfl rfl) ?_
 refine JD_take (i := 3) hp2 rfl (by kernel_rfl) (by kernel_rfl) (by kernel_rfl) wn rfl (ex_assign rfl) ?_
 refine JD_done (by kernel_rfl) ?_
 refine N_then ?_
 refine J_ret ?_
 exact N_ret1 rfl (rv_tmp rfl) (fun w hh => ⟨(), rfl, hh.sel [] rfl⟩)
set_option maxHeartbeats 40000000 in
theorem c_impl_validRule (A : Nat → Prop) (w : World) (hA : ∀ k, A k → k < w.heap.size) (v0_ : Value) (p0 : GMachine) (hp0 : Rd A w v0_ p0) (v1_ : Value) (p1 : GRule) (hp1 : Rd A w v1_ p1) (r : Bool) (hr : F_impl_validRule p0 p1 = some r) :
  Con Tryz.prog 71 [v0_, v1_] A w (fun x_ : Unit => .bool r) (fun x_ => []) := by
 obtain ⟨v0_0, rfl, hp0_0⟩ := GMachine.open hp0
 obtain rfl := GRule.open hp1
 refine Con_of (v := fun (r : Bool) (x_ : Unit) => .bool r) (fs := fun r x_ => []) Tryz.func71 rfl Tryz.ntmps71 rfl ((SH.start hA).start_rd rfl hp0_0) rfl ?_ hr
 unfold F_impl_validRule
 refine J_sr ?_
 refine JL_st wn rfl (st_box' rfl (fun w hh => (cv_aggs ⟨cv_int, cv_int, (hh.cv 0 rfl), trivial⟩))) (fun b1 => ?_)
 refine JL_st wn rfl (st_box' rfl (fun w hh => (cv_aggs ⟨cv_int, cv_int, cv_int, trivial⟩))) (fun b2 => ?_)
 refine JA rfl rfl ?_
 refine JL_nt ?_
 refine J_seq ?_
 refine J_sr ?_
 refine JL_q wn rfl (ex_load_bx_agg 0 ti_105 rfl rfl rfl rfl) ?_
 refine JL_bnd fun r3 hr4 => ?_
 refine JL_call wn rfl Tryz.call110 rfl (Ca_of0 fun w hh => c_impl_isRule _ w (fun _ hk => hk.elim) _ _ (GRule.rdmk (Rd.mk_int _ _ _) (Rd.mk_int _ _ _) (Rd.mk_int _ _ _)) _ hr4) (fun _ => ?_)
 refine JL_q wn rfl (ex_not rfl) ?_
 refine JL_nt ?_
 refine J_if rfl (fun h5 => ?_) (fun h5 => ?_)
 ·refine J_sr ?_
  refine JA rfl rfl ?_
  refine JL_nt ?_
  refine J_ret ?_
  refine N_then_ret ?_
  exact N_ret1 rfl (rv_tmp rfl) (fun w hh => ⟨(), rfl, hh.sel [] rfl⟩)
 ·refine J_skip ?_
  refine N_then ?_
  refine J_sr ?_
  refine JL_q wn rfl (ex_fieldAddr fi_105_0 rfl rfl) ?_
  refine JL_q wn rfl (ex_load_bx 0 ti_2 rfl rfl rfl) ?_
  refine JL_q wn rfl (ex_fieldAddr fi_26_0 rfl rfl) ?_
  refine JL_q wn rfl (ex_load_bx 1 ti_2 rfl rfl rfl) ?_
  refine JL_q wn rfl (ex_sub rfl rfl) ?_
  refine JL_bnd fun r6 hr7 => ?_
  refine JL_call wn rfl Tryz.call64 rfl (Ca_of0 fun w hh => c_impl_within _ w (fun _ hk => hk.elim) _ _ _ _ hr7) (fun _ => ?_)
  refine JM rfl rfl ?_
  refine JL_cond (fun h8 => ?_) (fun h8 => ?_)
  ·refine JL_q (wants_some rfl rfl rfl h8) rfl (ex_fieldAddr fi_105_1 rfl rfl) ?_
   refine JL_q (wants_some rfl rfl rfl h8) rfl (ex_load_bx 0 ti_2 rfl rfl rfl) ?_
   refine JL_q (wants_some rfl rfl rfl h8) rfl (ex_eql rfl rfl) ?_
   refine JL_q (wants_some rfl rfl rfl h8) rfl (ex_move rfl) ?_
   refine JL_cond (fun h9 => ?_) (fun h9 => ?_)
   ·refine JL_passed rfl rfl rfl h9 ?_
    refine JL_passed rfl rfl rfl h9 ?_
    refine JL_passed rfl rfl rfl h9 ?_
    refine JL_q (wants_some rfl rfl rfl h8) rfl (ex_pick_true rfl h9 rfl) ?_
    refine JL_q wn rfl (ex_pick_true rfl h8 rfl) ?_
    refine JM rfl rfl ?_
    refine JL_q (wants_some rfl rfl rfl rfl) rfl (ex_fieldAddr fi_105_2 rfl rfl) ?_
    refine JL_q (wants_some rfl rfl rfl rfl) rfl (ex_load_bx 0 ti_2 rfl rfl rfl) ?_
    refine JL_q (wants_some rfl rfl rfl rfl) rfl (ex_fieldAddr fi_26_1 rfl rfl) ?_
    refine JL_q (wants_some rfl rfl rfl rfl) rfl (ex_load_bx 1 ti_2 rfl rfl rfl) ?_
    refine JL_q (wants_some rfl rfl rfl rfl) rfl (ex_sub rfl rfl) ?_
    refine JL_bnd fun r10 hr11 => ?_
    refine JL_call (wants_some rfl rfl rfl rfl) rfl Tryz.call64 rfl (Ca_of0 fun w hh => c_impl_within _ w (fun _ hk => hk.elim) _ _ _ _ hr11) (fun _ => ?_)
    refine JL_q wn rfl (ex_pick_true rfl rfl rfl) ?_
    refine JA rfl rfl ?_
    refine JL_nt ?_
    refine J_ret ?_
    exact N_ret1 rfl (rv_tmp rfl) (fun w hh => ⟨(), rfl, hh.sel [] rfl⟩)
   ·refine JL_q (wants_some rfl rfl rfl h9) rfl (ex_fieldAddr fi_105_1 rfl rfl) ?_
    refine JL_q (wants_some rfl rfl rfl h9) rfl (ex_load_bx 0 ti_2 rfl rfl rfl) ?_
    refine JL_q (wants_some rfl rfl rfl h9) rfl (ex_eql rfl rfl) ?_
    refine JL_q (wants_some rfl rfl rfl h8) rfl (ex_pick_false rfl h9 rfl) ?_
    refine JL_q wn rfl (ex_pick_true rfl h8 rfl) ?_
    refine JM rfl rfl ?_
    refine JL_cond (fun h12 => ?_) (fun h12 => ?_)
    ·refine JL_q (wants_some rfl rfl rfl h12) rfl (ex_fieldAddr fi_105_2 rfl rfl) ?_
     refine JL_q (wants_some rfl rfl rfl h12) rfl (ex_load_bx 0 ti_2 rfl rfl rfl) ?_
     refine JL_q (wants_some rfl rfl rfl h12) rfl (ex_fieldAddr fi_26_1 rfl rfl) ?_
     refine JL_q (wants_some rfl rfl rfl h12) rfl (ex_load_bx 1 ti_2 rfl rfl rfl) ?_
     refine JL_q (wants_some rfl rfl rfl h12) rfl (ex_sub rfl rfl) ?_
     refine JL_bnd fun r13 hr14 => ?_
     refine JL_call (wants_some rfl rfl rfl h12) rfl Tryz.call64 rfl (Ca_of0 fun w hh => c_impl_within _ w (fun _ hk => hk.elim) _ _ _ _ hr14) (fun _ => ?_)
     refine JL_q wn rfl (ex_pick_true rfl h12 rfl) ?_
     refine JA rfl rfl ?_
     refine JL_nt ?_
     refine J_ret ?_
     exact N_ret1 rfl (rv_tmp rfl) (fun w hh => ⟨(), rfl, hh.sel [] rfl⟩)
    ·refine JL_passed rfl rfl rfl h12 ?_
     refine JL_passed rfl rfl rfl h12 ?_
     refine JL_passed rfl rfl rfl h12 ?_
     refine JL_passed rfl rfl rfl h12 ?_
     refine JL_passed rfl rfl rfl h12 ?_
     refine JL_passed rfl rfl rfl h12 ?_
     refine JL_q wn rfl (ex_pick_false rfl h12 rfl) ?_
     refine JA rfl rfl ?_
     refine JL_nt ?_
     refine J_ret ?_
     exact N_ret1 rfl (rv_tmp rfl) (fun w hh => ⟨(), rfl, hh.sel [] rfl⟩)
  ·refine JL_passed rfl rfl rfl h8 ?_
   refine JL_passed rfl rfl rfl h8 ?_
   refine JL_passed rfl rfl rfl h8 ?_
   refine JL_passed rfl rfl rfl h8 ?_
   refine JL_passed_undef rfl rfl rfl ?_
   refine JL_passed_undef rfl rfl rfl ?_
   refine JL_passed_undef rfl rfl rfl ?_
   refine JL_passed rfl rfl rfl h8 ?_
   refine JL_q wn rfl (ex_pick_false rfl h8 rfl) ?_
   refine JM rfl rfl ?_
   refine JL_passed rfl rfl rfl rfl ?_
   refine JL_passed rfl rfl rfl rfl ?_
   refine JL_passed rfl rfl rfl rfl ?_
   refine JL_passed rfl rfl rfl rfl ?_
   refine JL_passed rfl rfl rfl rfl ?_
   refine JL_passed rfl rfl rfl rfl ?_
   refine JL_q wn rfl (ex_pick_false rfl rfl rfl) ?_
   refine JA rfl rfl ?_
   refine JL_nt ?_
   refine J_ret ?_
   exact N_ret1 rfl (rv_tmp rfl) (fun w hh => ⟨(), rfl, hh.sel [] rfl⟩)
set_option maxHeartbeats 40000000 in
theorem c_impl_ValidMachine_1 (A : Nat → Prop) (w : World) (hA : ∀ k, A k → k < w.heap.size) (v0_ : Value) (p0 : GRule) (hp0 : Rd A w v0_ p0) (v1_ : Value) (p1 : GMachine) (hp1 : RdA A w.heap.size w v1_ p1) (r : Bool) (hr : F_impl_ValidMachine_1 p0 p1 = some r) :
  Con Tryz.prog 70 [v0_, v1_] A w (fun x_ : Unit => .bool r) (fun x_ => []) := by
 obtain rfl := GRule.open hp0
 refine Con_of (v := fun (r : Bool) (x_ : Unit) => .bool r) (fs := fun r x_ => []) Tryz.func70 rfl Tryz.ntmps70 rfl ((SH.start hA).start_pa' rfl hp1) rfl ?_ hr
 unfold F_impl_ValidMachine_1
 refine J_sr ?_
 refine JL_st wn rfl (st_box' rfl (fun w hh => (cv_aggs ⟨cv_int, cv_int, cv_int, trivial⟩))) (fun b1 => ?_)
 refine JA rfl rfl ?_
 refine JL_nt ?_
 refine J_sr ?_
 refine JL_st wn rfl (st_load_pa_o 1 (GMachine.opens _) ti_26 rfl rfl) (fun v2 => ?_)
 refine JL_q wn rfl (ex_load_bx_agg 1 ti_105 rfl rfl rfl rfl) ?_
 refine JL_bnd fun r3 hr4 => ?_
 refine JL_call wn rfl Tryz.call71 rfl (Ca_of0 fun w hh => c_impl_validRule _ w (fun _ hk => hk.elim) _ _ (GMachine.rdmk (Rd.mk_int _ _ _) (Rd.mk_int _ _ _) (hh.rd0 0 rfl)) _ _ (GRule.rdmk (Rd.mk_int _ _ _) (Rd.mk_int _ _ _) (Rd.mk_int _ _ _)) _ hr4) (fun _ => ?_)
 refine JL_q wn rfl (ex_not rfl) ?_
 refine JA rfl rfl ?_
 refine JL_nt ?_
 refine J_ret ?_
 exact N_ret1 rfl (rv_tmp rfl) (fun w hh => ⟨(), rfl, hh.sel [] rfl⟩)
set_option maxHeartbeats 40000000 in
theorem c_slices_IndexFunc_Simpl_Rule_impl_Rule (A : Nat → Prop) (w : World) (hA : ∀ k, A k → k < w.heap.size) (v0_ : Value) (p0 : (List GRule)) (hp0 : Rd A w v0_ p0) (v1_ : Value) (p1 : (GRule → Option Bool)) (hp1 : Clo Tryz.prog w v1_ p1 .bool) (r : Int) (hr : F_slices_IndexFunc_Simpl_Rule_impl_Rule p0 p1 = some r) :
  Con Tryz.prog 112 [v0_, v1_] A w (fun x_ : Unit => .int .i64 r) (fun x_ => []) := by
 refine Con_of (v := fun (r : Int) (x_ : Unit) => .int .i64 r) (fs := fun r x_ => []) Tryz.func112 rfl Tryz.ntmps112 rfl ((SH.start hA).start_rd rfl hp0) rfl ?_ hr
 unfold F_slices_IndexFunc_Simpl_Rule_impl_Rule
 refine J_sr ?_
 refine JA rfl rfl ?_
 refine JL_nt ?_
 refine J_seq ?_
 refine J_sr ?_
 refine JM rfl rfl ?_
 refine JL_q wn rfl (ex_len_rd 0 Tryz.underlying24 rfl rfl) ?_
 refine JM rfl rfl ?_
 refine JL_nt ?_
 refine J_loop' (S := Int) (G := Unit) (F_slices_IndexFunc_Simpl_Rule_impl_Rule_L1 p0 p1) (fun s1 _ => [(0, v0_), (1, v1_), (7, .int .i64 (p0.length : Int)), (8, .int .i64 s1)]) (fun s1 _ => [.rd v0_ p0]) 0 () ⟨rfl, rfl, rfl, rfl, trivial⟩ [0] rfl rfl (fun s1 g2 => ?_) (fun s1 g2 => ?_)
 ·unfold F_slices_IndexFunc_Simpl_Rule_impl_Rule_L1
  refine J_sr ?_
  refine JL_q wn rfl (ex_lss rfl rfl) ?_
  refine JL_nt ?_
  refine J_seq ?_
  refine J_if rfl (fun h3 => ?_) (fun h3 => ?_)
  ·refine J_skip ?_
   refine N_then ?_
   refine J_seq ?_
   refine J_block ?_
   refine J_sr ?_
   refine JM rfl rfl ?_
   refine JA rfl rfl ?_
   refine JL_nt ?_
   refine J_sr ?_
   refine JM rfl rfl ?_
   refine JM rfl rfl ?_
   refine JM rfl rfl ?_
   refine JL_bnd fun y4 hy5 => ?_
   refine JL_st wn rfl (st_index 0 Tryz.underlying24 ti_105 rfl rfl rfl hy5) (fun q6 => ?_)
   refine JL_st wn rfl (st_load_pt_o 0 (GRule.opens _) ti_105 rfl rfl) (fun _ => ?_)
   refine JL_bnd fun r8 hr9 => ?_
   refine JL_clo wn rfl hp1 rfl rfl (fun w hh => (GRule.rdmk (Rd.mk_int _ _ _) (Rd.mk_int _ _ _) (Rd.mk_int _ _ _))) hr9 ?_
   refine JL_nt ?_
   refine J_if rfl (fun h10 => ?_) (fun h10 => ?_)
   ·refine J_sr ?_
    refine JM rfl rfl ?_
    refine JA rfl rfl ?_
    refine JL_nt ?_
    refine J_ret ?_
    refine N_block_ret ?_
    refine N_then_ret ?_
    refine N_round_ret ?_
    refine N_then_ret ?_
    exact N_ret1 rfl (rv_tmp rfl) (fun w hh => ⟨(), rfl, hh.sel [] rfl⟩)
   ·refine J_skip ?_
    refine N_block ?_
    refine N_then ?_
    refine J_region ?_
    refine JL_q wn rfl (ex_add rfl rfl) ?_
    refine JM rfl rfl ?_
    refine JL_nil ?_
    exact N_next' () ⟨rfl, rfl, rfl, rfl, trivial⟩ [1] rfl rfl
  ·refine J_exit ?_
   refine N_then_exit ?_
   exact N_break' () ⟨rfl, rfl, rfl, rfl, trivial⟩ [0] rfl rfl
 ·refine N_then ?_
  refine J_sr ?_
  refine JA rfl rfl ?_
  refine JL_nt ?_
  refine J_ret ?_
  exact N_ret1 rfl (rv_tmp rfl) (fun w hh => ⟨(), rfl, hh.sel [] rfl⟩)
set_option maxHeartbeats 40000000 in
theorem c_slices_ContainsFunc_Simpl_Rule_impl_Rule (A : Nat → Prop) (w : World) (hA : ∀ k, A k → k < w.heap.size) (v0_ : Value) (p0 : (List GRule)) (hp0 : Rd A w v0_ p0) (v1_ : Value) (p1 : (GRule → Option Bool)) (hp1 : Clo Tryz.prog w v1_ p1 .bool) (r : Bool) (hr : F_slices_ContainsFunc_Simpl_Rule_impl_Rule p0 p1 = some r) :
  Con Tryz.prog 69 [v0_, v1_] A w (fun x_ : Unit => .bool r) (fun x_ => []) := by
 refine Con_of (v := fun (r : Bool) (x_ : Unit) => .bool r) (fs := fun r x_ => []) Tryz.func69 rfl Tryz.ntmps69 rfl ((SH.start hA).start_rd rfl hp0) rfl ?_ hr
 unfold F_slices_ContainsFunc_Simpl_Rule_impl_Rule
 refine J_sr ?_
 refine JA rfl rfl ?_
 refine JL_nt ?_
 refine J_sr ?_
 refine JM rfl rfl ?_
 refine JM rfl rfl ?_
 refine JL_bnd fun r1 hr2 => ?_
 refine JL_call wn rfl Tryz.call112 rfl (Ca_of0 fun w hh => c_slices_IndexFunc_Simpl_Rule_impl_Rule _ w (fun _ hk => hk.elim) _ _ (hh.rd0 0 rfl) _ _ (hp1.later hh.below) _ hr2) (fun _ => ?_)
 refine JL_q wn rfl (ex_geq rfl rfl) ?_
 refine JA rfl rfl ?_
 refine JL_nt ?_
 refine J_ret ?_
 exact N_ret1 rfl (rv_tmp rfl) (fun w hh => ⟨(), rfl, hh.sel [] rfl⟩)
set_option maxHeartbeats 40000000 in
theorem c_impl_ValidMachine (A : Nat → Prop) (w : World) (hA : ∀ k, A k → k < w.heap.size) (v0_ : Value) (p0 : GMachine) (hp0 : Rd A w v0_ p0) (r : Bool) (hr : F_impl_ValidMachine p0 = some r) :
  Con Tryz.prog 28 [v0_] A w (fun x_ : Unit => .bool r) (fun x_ => []) := by
 obtain ⟨v0_0, rfl, hp0_0⟩ := GMachine.open hp0
 refine Con_of (v := fun (r : Bool) (x_ : Unit) => .bool r) (fs := fun r x_ => []) Tryz.func28 rfl Tryz.ntmps28 rfl ((SH.start hA).start_rd rfl hp0_0) rfl ?_ hr
 unfold F_impl_ValidMachine
 refine J_sr ?_
 refine JL_st wn rfl (st_box' rfl (fun w hh => (cv_aggs ⟨cv_int, cv_int, (hh.cv 0 rfl), trivial⟩))) (fun b1 => ?_)
 refine JA rfl rfl ?_
 refine JL_nt ?_
 refine J_seq ?_
 refine J_seq ?_
 refine J_draw [] (by kernel_rfl) ?_
 refine JP_take (i := 0) [0, 1] [] rfl (by kernel_rfl) (by kernel_rfl) (by kernel_rfl) rfl rfl wn rfl (ex_fieldAddr fi_26_0 rfl rfl) ?_
 refine JP_take (i := 1) [0, 1] [] rfl (by kernel_rfl) (by kernel_rfl) (by kernel_rfl) rfl rfl wn rfl (ex_load_bx 0 ti_2 rfl rfl rfl) ?_
 refine JP_go [0, 1] [] rfl rfl rfl (fun w3 h1_4 hp2 => ?_)
 refine JD_bnd fun r5 hr6 => ?_
 refine JD_one (i := 2) (by kernel_rfl) ?_
 refine JO_call rfl wn rfl Tryz.call64 rfl (Ca_of0 fun w hh => c_impl_within _ w (fun _ hk => hk.elim) _ _ _ _ hr6) (fun _ => ?_)
 refine JD_take (i := 3) hp2 rfl (by kernel_rfl) (by kernel_rfl) (by kernel_rfl) wn rfl (ex_not rfl) ?_
 refine JD_take (i := 4) hp2 rfl (by kernel_rfl) (by kernel_rfl) (by kernel_rfl) wn rfl (ex_move rfl) ?_
 refine JD_cond (fun h7 => ?_) (fun h7 => ?_)
 ·refine JD_pass (i := 5) rfl (by kernel_rfl) (by kernel_rfl) (by kernel_rfl) rfl rfl h7 rfl ?_
  refine JD_pass (i := 6) rfl (by kernel_rfl) (by kernel_rfl) (by kernel_rfl) rfl rfl h7 rfl ?_
  refine JD_pass (i := 7) rfl (by kernel_rfl) (by kernel_rfl) (by kernel_rfl) rfl rfl h7 rfl ?_
  refine JD_pass (i := 8) rfl (by kernel_rfl) (by kernel_rfl) (by kernel_rfl) rfl rfl h7 rfl ?_
  refine JD_take (i := 9) hp2 rfl (by kernel_rfl) (by kernel_rfl) (by kernel_rfl) wn rfl (ex_pick_true rfl h7 rfl) ?_
  refine JD_take (i := 10) hp2 rfl (by kernel_rfl) (by kernel_rfl) (by kernel_rfl) wn rfl (ex_move rfl) ?_
  refine JD_pass (i := 11) rfl (by kernel_rfl) (by kernel_rfl) (by kernel_rfl) rfl rfl rfl rfl ?_
  refine JD_pass (i := 12) rfl (by kernel_rfl) (by kernel_rfl) (by kernel_rfl) rfl rfl rfl rfl ?_
  refine JD_pass (i := 13) rfl (by kernel_rfl) (by kernel_rfl) (by kernel_rfl) rfl rfl rfl rfl ?_
  refine JD_pass (i := 14) rfl (by kernel_rfl) (by kernel_rfl) (by kernel_rfl) rfl rfl rfl rfl ?_
  refine JD_pass (i := 15) rfl (by kernel_rfl) (by kernel_rfl) (by kernel_rfl) rfl rfl rfl rfl ?_
  refine JD_pass (i := 16) rfl (by kernel_rfl) (by kernel_rfl) (by kernel_rfl) rfl rfl rfl rfl ?_
  refine JD_pass (i := 17) rfl (by kernel_rfl) (by kernel_rfl) (by kernel_rfl) rfl rfl rfl rfl ?_
  refine JD_pass (i := 18) rfl (by kernel_rfl) (by kernel_rfl) (by kernel_rfl) rfl rfl rfl rfl ?_
  refine JD_pass (i := 19) rfl (by kernel_rfl) (by kernel_rfl) (by kernel_rfl) rfl rfl rfl rfl ?_
  refine JD_take (i := 20) hp2 rfl (by kernel_rfl) (by kernel_rfl) (by kernel_rfl) wn rfl (ex_pick_true rfl rfl rfl) ?_
  refine JD_done (by kernel_rfl) ?_
  refine N_then ?_
  refine J_if_true rfl rfl ?_
  refine J_sr ?_
  refine JA rfl rfl ?_
  refine JL_nt ?_
  refine J_ret ?_
  refine N_then_ret ?_
  exact N_ret1 rfl (rv_tmp rfl) (fun w hh => ⟨(), rfl, hh.sel [] rfl⟩)
 ·refine JD_take (i := 5) hp2 rfl (by kernel_rfl) (by kernel_rfl) (by kernel_rfl) (wants_some rfl rfl rfl h7) rfl (ex_fieldAddr fi_26_1 rfl rfl) ?_
  refine JD_take (i := 6) hp2 rfl (by kernel_rfl) (by kernel_rfl) (by kernel_rfl) (wants_some rfl rfl rfl h7) rfl (ex_load_bx 0 ti_2 rfl rfl rfl) ?_
  refine JD_bnd fun r8 hr9 => ?_
  refine JD_one (i := 7) (by kernel_rfl) ?_
  refine JO_call rfl (wants_some rfl rfl rfl h7) rfl Tryz.call64 rfl (Ca_of0 fun w hh => c_impl_within _ w (fun _ hk => hk.elim) _ _ _ _ hr9) (fun _ => ?_)
  refine JD_take (i := 8) hp2 rfl (by kernel_rfl) (by kernel_rfl) (by kernel_rfl) (wants_some rfl rfl rfl h7) rfl (ex_not rfl) ?_
  refine JD_take (i := 9) hp2 rfl (by kernel_rfl) (by kernel_rfl) (by kernel_rfl) wn rfl (ex_pick_false rfl h7 rfl) ?_
  refine JD_take (i := 10) hp2 rfl (by kernel_rfl) (by kernel_rfl) (by kernel_rfl) wn rfl (ex_move rfl) ?_
  refine JD_cond (fun h10 => ?_) (fun h10 => ?_)
  ·refine JD_pass (i := 11) rfl (by kernel_rfl) (by kernel_rfl) (by kernel_rfl) rfl rfl h10 rfl ?_
   refine JD_pass (i := 12) rfl (by kernel_rfl) (by kernel_rfl) (by kernel_rfl) rfl rfl h10 rfl ?_
   refine JD_pass (i := 13) rfl (by kernel_rfl) (by kernel_rfl) (by kernel_rfl) rfl rfl h10 rfl ?_
   refine JD_pass (i := 14) rfl (by kernel_rfl) (by kernel_rfl) (by kernel_rfl) rfl rfl h10 rfl ?_
   refine JD_pass (i := 15) rfl (by kernel_rfl) (by kernel_rfl) (by kernel_rfl) rfl rfl h10 rfl ?_
   refine JD_pass (i := 16) rfl (by kernel_rfl) (by kernel_rfl) (by kernel_rfl) rfl rfl h10 rfl ?_
   refine JD_pass (i := 17) rfl (by kernel_rfl) (by kernel_rfl) (by kernel_rfl) rfl rfl h10 rfl ?_
   refine JD_pass (i := 18) rfl (by kernel_rfl) (by kernel_rfl) (by kernel_rfl) rfl rfl h10 rfl ?_
   refine JD_pass (i := 19) rfl (by kernel_rfl) (by kernel_rfl) (by kernel_rfl) rfl rfl h10 rfl ?_
   refine JD_take (i := 20) hp2 rfl (by kernel_rfl) (by kernel_rfl) (by kernel_rfl) wn rfl (ex_pick_true rfl h10 rfl) ?_
   refine JD_done (by kernel_rfl) ?_
   refine N_then ?_
   refine J_if_true rfl rfl ?_
   refine J_sr ?_
   refine JA rfl rfl ?_
   refine JL_nt ?_
   refine J_ret ?_
   refine N_then_ret ?_
   exact N_ret1 rfl (rv_tmp rfl) (fun w hh => ⟨(), rfl, hh.sel [] rfl⟩)
  ·refine JD_take (i := 11) hp2 rfl (by kernel_rfl) (by kernel_rfl) (by kernel_rfl) (wants_some rfl rfl rfl h10) rfl (ex_fieldAddr fi_26_2 rfl rfl) ?_
   refine JD_take (i := 12) hp2 rfl (by kernel_rfl) (by kernel_rfl) (by kernel_rfl) (wants_some rfl rfl rfl h10) rfl (ex_load_bx 0 ti_24 rfl rfl rfl) ?_
   refine JD_take (i := 14) hp2 rfl (by kernel_rfl) (by kernel_rfl) (by kernel_rfl) (wants_some rfl rfl rfl h10) rfl (ex_fieldAddr fi_26_1 rfl rfl) ?_
   refine JD_take (i := 15) hp2 rfl (by kernel_rfl) (by kernel_rfl) (by kernel_rfl) (wants_some rfl rfl rfl h10) rfl (ex_load_bx 0 ti_2 rfl rfl rfl) ?_
   refine JD_take (i := 16) hp2 rfl (by kernel_rfl) (by kernel_rfl) (by kernel_rfl) (wants_some rfl rfl rfl h10) rfl (ex_fieldAddr fi_26_0 rfl rfl) ?_
   refine JD_take (i := 17) hp2 rfl (by kernel_rfl) (by kernel_rfl) (by kernel_rfl) (wants_some rfl rfl rfl h10) rfl (ex_load_bx 0 ti_2 rfl rfl rfl) ?_
   refine JD_take (i := 18) hp2 rfl (by kernel_rfl) (by kernel_rfl) (by kernel_rfl) (wants_some rfl rfl rfl h10) rfl (ex_mul rfl rfl) ?_
   refine JD_bnd fun r11 hr12 => ?_
   refine JD_one (i := 13) (by kernel_rfl) ?_
   refine JO_call rfl (wants_some rfl rfl rfl h10) rfl Tryz.call68 rfl (Ca_of0 fun w hh => c_impl_size_impl_Rule _ w (fun _ hk => hk.elim) _ _ (hh.rd0 1 rfl) _ hr12) (fun _ => ?_)
   refine JD_take (i := 19) hp2 rfl (by kernel_rfl) (by kernel_rfl) (by kernel_rfl) (wants_some rfl rfl rfl h10) rfl (ex_neq rfl rfl) ?_
   refine JD_take (i := 20) hp2 rfl (by kernel_rfl) (by kernel_rfl) (by kernel_rfl) wn rfl (ex_pick_false rfl h10 rfl) ?_
   refine JD_done (by kernel_rfl) ?_
   refine N_then ?_
   refine J_if rfl (fun h13 => ?_) (fun h13 => ?_)
   ·refine J_sr ?_
    refine JA rfl rfl ?_
    refine JL_nt ?_
    refine J_ret ?_
    refine N_then_ret ?_
    exact N_ret1 rfl (rv_tmp rfl) (fun w hh => ⟨(), rfl, hh.sel [] rfl⟩)
   ·refine J_skip ?_
    refine N_then ?_
    refine J_sr ?_
    refine JL_q wn rfl (ex_fieldAddr fi_26_2 rfl rfl) ?_
    refine JL_q wn rfl (ex_load_bx 0 ti_24 rfl rfl rfl) ?_
    refine JL_q wn rfl (ex_makeFunc rfl) ?_
    refine JL_bnd fun r14 hr15 => ?_
    refine JL_call wn rfl Tryz.call69 rfl (Ca_of0 fun w hh => c_slices_ContainsFunc_Simpl_Rule_impl_Rule _ w (fun _ hk => hk.elim) _ _ (hh.rd0 1 rfl) _ _ (Clo.mk (caps := [.pointer (some ⟨b1, 0, none⟩)]) Tryz.call70 (fun w_ hb_ v_ x_ r_ hrd_ hr_ => c_impl_ValidMachine_1 nowhere w_ (fun _ hk => hk.elim) v_ x_ hrd_ _ _ ((hh.bx_pa 0 rfl (GMachine.rdmk (Rd.mk_int _ _ _) (Rd.mk_int _ _ _) (hh.rd0 1 rfl)) rfl).later hb_) _ hr_)) _ hr15) (fun _ => ?_)
    refine JL_q wn rfl (ex_not rfl) ?_
    refine JA rfl rfl ?_
    refine JL_nt ?_
    refine J_ret ?_
    exact N_ret1 rfl (rv_tmp rfl) (fun w hh => ⟨(), rfl, hh.sel [] rfl⟩)
set_option maxHeartbeats 40000000 in
theorem c_impl_size_int64 (A : Nat → Prop) (w : World) (hA : ∀ k, A k → k < w.heap.size) (v0_ : Value) (p0 : (List Int)) (hp0 : Rd A w v0_ p0) (r : Int) (hr : F_impl_size_int64 p0 = some r) :
  Con Tryz.prog 94 [v0_] A w (fun x_ : Unit => .int .i64 r) (fun x_ => []) := by
 refine Con_of (v := fun (r : Int) (x_ : Unit) => .int .i64 r) (fs := fun r x_ => []) Tryz.func94 rfl Tryz.ntmps94 rfl ((SH.start hA).start_rd rfl hp0) rfl ?_ hr
 unfold F_impl_size_int64
 refine J_sr ?_
 refine JA rfl rfl ?_
 refine JL_nt ?_
 refine J_sr ?_
 refine JM rfl rfl ?_
 refine JL_q wn rfl (ex_len_rd 0 Tryz.underlying27 rfl rfl) ?_
 refine JA rfl rfl ?_
 refine JL_nt ?_
 refine J_ret ?_
 exact N_ret1 rfl (rv_tmp rfl) (fun w hh => ⟨(), rfl, hh.sel [] rfl⟩)
set_option maxHeartbeats 40000000 in
theorem c_impl_allWithin (A : Nat → Prop) (w : World) (hA : ∀ k, A k → k < w.heap.size) (v0_ : Value) (p0 : (List Int)) (hp0 : Rd A w v0_ p0) (p1 : Int) (p2 : Int) (r : Bool) (hr : F_impl_allWithin p0 p1 p2 = some r) :
  Con Tryz.prog 81 [v0_, .int .i64 p1, .int .i64 p2] A w (fun x_ : Unit => .bool r) (fun x_ => []) := by
 refine Con_of (v := fun (r : Bool) (x_ : Unit) => .bool r) (fs := fun r x_ => []) Tryz.func81 rfl Tryz.ntmps81 rfl ((SH.start hA).start_rd rfl hp0) rfl ?_ hr
 unfold F_impl_allWithin
 refine J_sr ?_
 refine JA rfl rfl ?_
 refine JL_nt ?_
 refine J_seq ?_
 refine J_sr ?_
 refine JM rfl rfl ?_
 refine JL_q wn rfl (ex_len_rd 0 Tryz.underlying27 rfl rfl) ?_
 refine JM rfl rfl ?_
 refine JL_nt ?_
 refine J_loop' (S := Int) (G := Unit) (F_impl_allWithin_L1 p0 p1 p2) (fun s1 _ => [(1, .int .i64 p1), (2, .int .i64 p2), (9, v0_), (10, .int .i64 (p0.length : Int)), (11, .int .i64 s1)]) (fun s1 _ => [.rd v0_ p0]) 0 () ⟨rfl, rfl, rfl, rfl, rfl, trivial⟩ [0] rfl rfl (fun s1 g2 => ?_) (fun s1 g2 => ?_)
 ·unfold F_impl_allWithin_L1
  refine J_sr ?_
  refine JL_q wn rfl (ex_lss rfl rfl) ?_
  refine JL_nt ?_
  refine J_seq ?_
  refine J_if rfl (fun h3 => ?_) (fun h3 => ?_)
  ·refine J_skip ?_
   refine N_then ?_
   refine J_seq ?_
   refine J_block ?_
   refine J_sr ?_
   refine JL_bnd fun y4 hy5 => ?_
   refine JL_st wn rfl (st_index 0 Tryz.underlying27 ti_2 rfl rfl rfl hy5) (fun q6 => ?_)
   refine JL_st wn rfl (st_load_pt_o 0 (opens_int _) ti_2 rfl rfl) (fun _ => ?_)
   refine JA rfl rfl ?_
   refine JL_nt ?_
   refine J_sr ?_
   refine JM rfl rfl ?_
   refine JM rfl rfl ?_
   refine JM rfl rfl ?_
   refine JL_bnd fun r8 hr9 => ?_
   refine JL_call wn rfl Tryz.call64 rfl (Ca_of0 fun w hh => c_impl_within _ w (fun _ hk => hk.elim) _ _ _ _ hr9) (fun _ => ?_)
   refine JL_q wn rfl (ex_not rfl) ?_
   refine JL_nt ?_
   refine J_if rfl (fun h10 => ?_) (fun h10 => ?_)
   ·refine J_sr ?_
    refine JA rfl rfl ?_
    refine JL_nt ?_
    refine J_ret ?_
    refine N_block_ret ?_
    refine N_then_ret ?_
    refine N_round_ret ?_
    refine N_then_ret ?_
    exact N_ret1 rfl (rv_tmp rfl) (fun w hh => ⟨(), rfl, hh.sel [] rfl⟩)
   ·refine J_skip ?_
    refine N_block ?_
    refine N_then ?_
    refine J_region ?_
    refine JL_q wn rfl (ex_add rfl rfl) ?_
    refine JM rfl rfl ?_
    refine JL_nil ?_
    exact N_next' () ⟨rfl, rfl, rfl, rfl, rfl, trivial⟩ [1] rfl rfl
  ·refine J_exit ?_
   refine N_then_exit ?_
   exact N_break' () ⟨rfl, rfl, rfl, rfl, rfl, trivial⟩ [0] rfl rfl
 ·refine N_then ?_
  refine J_sr ?_
  refine JA rfl rfl ?_
  refine JL_nt ?_
  refine J_ret ?_
  exact N_ret1 rfl (rv_tmp rfl) (fun w hh => ⟨(), rfl, hh.sel [] rfl⟩)
set_option maxHeartbeats 40000000 in
theorem c_impl_validSide (A : Nat → Prop) (w : World) (hA : ∀ k, A k → k < w.heap.size) (v0_ : Value) (p0 : (List Int)) (hp0 : Rd A w v0_ p0) (p1 : Int) (p2 : Int) (r : Bool) (hr : F_impl_validSide p0 p1 p2 = some r) :
  Con Tryz.prog 106 [v0_, .int .i64 p1, .int .i64 p2] A w (fun x_ : Unit => .bool r) (fun x_ => []) := by
 refine Con_of (v := fun (r : Bool) (x_ : Unit) => .bool r) (fs := fun r x_ => []) Tryz.func106 rfl Tryz.ntmps106 rfl ((SH.start hA).start_rd rfl hp0) rfl ?_ hr
 unfold F_impl_validSide
 refine J_sr ?_
 refine JA rfl rfl ?_
 refine JL_nt ?_
 refine J_sr ?_
 refine JM rfl rfl ?_
 refine JL_bnd fun r1 hr2 => ?_
 refine JL_call wn rfl Tryz.call94 rfl (Ca_of0 fun w hh => c_impl_size_int64 _ w (fun _ hk => hk.elim) _ _ (hh.rd0 0 rfl) _ hr2) (fun _ => ?_)
 refine JM rfl rfl ?_
 refine JL_q wn rfl (ex_leq rfl rfl) ?_
 refine JM rfl rfl ?_
 refine JL_cond (fun h3 => ?_) (fun h3 => ?_)
 ·refine JL_q (wants_some rfl rfl rfl h3) rfl (ex_move rfl) ?_
  refine JL_q (wants_some rfl rfl rfl h3) rfl (ex_move rfl) ?_
  refine JL_q (wants_some rfl rfl rfl h3) rfl (ex_sub rfl rfl) ?_
  refine JL_bnd fun r4 hr5 => ?_
  refine JL_call (wants_some rfl rfl rfl h3) rfl Tryz.call81 rfl (Ca_of0 fun w hh => c_impl_allWithin _ w (fun _ hk => hk.elim) _ _ (hh.rd0 0 rfl) _ _ _ hr5) (fun _ => ?_)
  refine JL_q wn rfl (ex_pick_true rfl h3 rfl) ?_
  refine JM rfl rfl ?_
  refine JL_cond (fun h6 => ?_) (fun h6 => ?_)
  ·refine JL_q (wants_some rfl rfl rfl h6) rfl (ex_move rfl) ?_
   refine JL_q (wants_some rfl rfl rfl h6) rfl (ex_len_rd 0 Tryz.underlying27 rfl rfl) ?_
   refine JL_q (wants_some rfl rfl rfl h6) rfl (ex_eql rfl rfl) ?_
   refine JL_q (wants_some rfl rfl rfl h6) rfl (ex_move rfl) ?_
   refine JL_cond (fun h7 => ?_) (fun h7 => ?_)
   ·refine JL_passed rfl rfl rfl h7 ?_
    refine JL_passed rfl rfl rfl h7 ?_
    refine JL_passed rfl rfl rfl h7 ?_
    refine JL_passed rfl rfl rfl h7 ?_
    refine JL_passed rfl rfl rfl h7 ?_
    refine JL_passed rfl rfl rfl h7 ?_
    refine JL_passed rfl rfl rfl h7 ?_
    refine JL_q (wants_some rfl rfl rfl h6) rfl (ex_pick_true rfl h7 rfl) ?_
    refine JL_q wn rfl (ex_pick_true rfl h6 rfl) ?_
    refine JA rfl rfl ?_
    refine JL_nt ?_
    refine J_ret ?_
    exact N_ret1 rfl (rv_tmp rfl) (fun w hh => ⟨(), rfl, hh.sel [] rfl⟩)
   ·refine JL_q (wants_some rfl rfl rfl h7) rfl (ex_move rfl) ?_
    refine JL_q (wants_some rfl rfl rfl h7) rfl (ex_move rfl) ?_
    refine JL_q (wants_some rfl rfl rfl h7) rfl (ex_len_rd 0 Tryz.underlying27 rfl rfl) ?_
    refine JL_q (wants_some rfl rfl rfl h7) rfl (ex_sub rfl rfl) ?_
    refine JL_bnd fun y8 hy9 => ?_
    refine JL_st (wants_some rfl rfl rfl h7) rfl (st_index 0 Tryz.underlying27 ti_2 rfl rfl rfl hy9) (fun q10 => ?_)
    refine JL_st (wants_some rfl rfl rfl h7) rfl (st_load_pt_o 0 (opens_int _) ti_2 rfl rfl) (fun _ => ?_)
    refine JL_q (wants_some rfl rfl rfl h7) rfl (ex_neq rfl rfl) ?_
    refine JL_q (wants_some rfl rfl rfl h6) rfl (ex_pick_false rfl h7 rfl) ?_
    refine JL_q wn rfl (ex_pick_true rfl h6 rfl) ?_
    refine JA rfl rfl ?_
    refine JL_nt ?_
    refine J_ret ?_
    exact N_ret1 rfl (rv_tmp rfl) (fun w hh => ⟨(), rfl, hh.sel [] rfl⟩)
  ·refine JL_passed rfl rfl rfl h6 ?_
   refine JL_passed rfl rfl rfl h6 ?_
   refine JL_passed rfl rfl rfl h6 ?_
   refine JL_passed rfl rfl rfl h6 ?_
   refine JL_passed_undef rfl rfl rfl ?_
   refine JL_passed_undef rfl rfl rfl ?_
   refine JL_passed_undef rfl rfl rfl ?_
   refine JL_passed_undef rfl rfl rfl ?_
   refine JL_passed_undef rfl rfl rfl ?_
   refine JL_passed_undef rfl rfl rfl ?_
   refine JL_passed_undef rfl rfl rfl ?_
   refine JL_passed rfl rfl rfl h6 ?_
   refine JL_q wn rfl (ex_pick_false rfl h6 rfl) ?_
   refine JA rfl rfl ?_
   refine JL_nt ?_
   refine J_ret ?_
   exact N_ret1 rfl (rv_tmp rfl) (fun w hh => ⟨(), rfl, hh.sel [] rfl⟩)
 ·refine JL_passed rfl rfl rfl h3 ?_
  refine JL_passed rfl rfl rfl h3 ?_
  refine JL_passed rfl rfl rfl h3 ?_
  refine JL_passed rfl rfl rfl h3 ?_
  refine JL_q wn rfl (ex_pick_false rfl h3 rfl) ?_
  refine JM rfl rfl ?_
  refine JL_passed rfl rfl rfl rfl ?_
  refine JL_passed rfl rfl rfl rfl ?_
  refine JL_passed rfl rfl rfl rfl ?_
  refine JL_passed rfl rfl rfl rfl ?_
  refine JL_passed_undef rfl rfl rfl ?_
  refine JL_passed_undef rfl rfl rfl ?_
  refine JL_passed_undef rfl rfl rfl ?_
  refine JL_passed_undef rfl rfl rfl ?_
  refine JL_passed_undef rfl rfl rfl ?_
  refine JL_passed_undef rfl rfl rfl ?_
  refine JL_passed_undef rfl rfl rfl ?_
  refine JL_passed rfl rfl rfl rfl ?_
  refine JL_q wn rfl (ex_pick_false rfl rfl rfl) ?_
  refine JA rfl rfl ?_
  refine JL_nt ?_
  refine J_ret ?_
  exact N_ret1 rfl (rv_tmp rfl) (fun w hh => ⟨(), rfl, hh.sel [] rfl⟩)
set_option maxHeartbeats 40000000 in
theorem c_impl_configOf (A : Nat → Prop) (w : World) (hA : ∀ k, A k → k < w.heap.size) (v0_ : Value) (p0 : GMachine) (hp0 : Rd A w v0_ p0) (v1_ : Value) (p1 : GConfig) (hp1 : Rd A w v1_ p1) (r : Bool) (hr : F_impl_configOf p0 p1 = some r) :
  Con Tryz.prog 63 [v0_, v1_] A w (fun x_ : Unit => .bool r) (fun x_ => []) := by
 obtain ⟨v0_0, rfl, hp0_0⟩ := GMachine.open hp0
 obtain ⟨v1_0, v1_1, rfl, hp1_0, hp1_1⟩ := GConfig.open hp1
 refine Con_of (v := fun (r : Bool) (x_ : Unit) => .bool r) (fs := fun r x_ => []) Tryz.func63 rfl Tryz.ntmps63 rfl ((((SH.start hA).start_rd rfl hp0_0).start_rd rfl hp1_0).start_rd rfl hp1_1) rfl ?_ hr
 unfold F_impl_configOf
 refine J_sr ?_
 refine JL_st wn rfl (st_box' rfl (fun w hh => (cv_aggs ⟨cv_int, cv_int, (hh.cv 2 rfl), trivial⟩))) (fun b1 => ?_)
 refine JL_st wn rfl (st_box' rfl (fun w hh => (cv_aggs ⟨cv_int, (hh.cv 2 rfl), (hh.cv 1 rfl), trivial⟩))) (fun b2 => ?_)
 refine JA rfl rfl ?_
 refine JL_nt ?_
 refine J_sr ?_
 refine JL_q wn rfl (ex_fieldAddr fi_29_0 rfl rfl) ?_
 refine JL_q wn rfl (ex_load_bx 0 ti_2 rfl rfl rfl) ?_
 refine JL_q wn rfl (ex_fieldAddr fi_26_1 rfl rfl) ?_
 refine JL_q wn rfl (ex_load_bx 1 ti_2 rfl rfl rfl) ?_
 refine JL_q wn rfl (ex_sub rfl rfl) ?_
 refine JL_bnd fun r3 hr4 => ?_
 refine JL_call wn rfl Tryz.call64 rfl (Ca_of0 fun w hh => c_impl_within _ w (fun _ hk => hk.elim) _ _ _ _ hr4) (fun _ => ?_)
 refine JM rfl rfl ?_
 refine JL_cond (fun h5 => ?_) (fun h5 => ?_)
 ·refine JL_q (wants_some rfl rfl rfl h5) rfl (ex_fieldAddr fi_29_1 rfl rfl) ?_
  refine JL_q (wants_some rfl rfl rfl h5) rfl (ex_load_bx 0 ti_27 rfl rfl rfl) ?_
  refine JL_q (wants_some rfl rfl rfl h5) rfl (ex_fieldAddr fi_26_0 rfl rfl) ?_
  refine JL_q (wants_some rfl rfl rfl h5) rfl (ex_load_bx 1 ti_2 rfl rfl rfl) ?_
  refine JL_bnd fun r6 hr7 => ?_
  refine JL_call (wants_some rfl rfl rfl h5) rfl Tryz.call106 rfl (Ca_of0 fun w hh => c_impl_validSide _ w (fun _ hk => hk.elim) _ _ (hh.rd0 3 rfl) _ _ _ hr7) (fun _ => ?_)
  refine JL_q wn rfl (ex_pick_true rfl h5 rfl) ?_
  refine JM rfl rfl ?_
  refine JL_cond (fun h8 => ?_) (fun h8 => ?_)
  ·refine JL_q (wants_some rfl rfl rfl h8) rfl (ex_fieldAddr fi_29_2 rfl rfl) ?_
   refine JL_q (wants_some rfl rfl rfl h8) rfl (ex_load_bx 0 ti_27 rfl rfl rfl) ?_
   refine JL_q (wants_some rfl rfl rfl h8) rfl (ex_fieldAddr fi_26_0 rfl rfl) ?_
   refine JL_q (wants_some rfl rfl rfl h8) rfl (ex_load_bx 1 ti_2 rfl rfl rfl) ?_
   refine JL_bnd fun r9 hr10 => ?_
   refine JL_call (wants_some rfl rfl rfl h8) rfl Tryz.call106 rfl (Ca_of0 fun w hh => c_impl_validSide _ w (fun _ hk => hk.elim) _ _ (hh.rd0 2 rfl) _ _ _ hr10) (fun _ => ?_)
   refine JL_q wn rfl (ex_pick_true rfl h8 rfl) ?_
   refine JA rfl rfl ?_
   refine JL_nt ?_
   refine J_ret ?_
   exact N_ret1 rfl (rv_tmp rfl) (fun w hh => ⟨(), rfl, hh.sel [] rfl⟩)
  ·refine JL_passed rfl rfl rfl h8 ?_
   refine JL_passed rfl rfl rfl h8 ?_
   refine JL_passed rfl rfl rfl h8 ?_
   refine JL_passed rfl rfl rfl h8 ?_
   refine JL_passed rfl rfl rfl h8 ?_
   refine JL_q wn rfl (ex_pick_false rfl h8 rfl) ?_
   refine JA rfl rfl ?_
   refine JL_nt ?_
   refine J_ret ?_
   exact N_ret1 rfl (rv_tmp rfl) (fun w hh => ⟨(), rfl, hh.sel [] rfl⟩)
 ·refine JL_passed rfl rfl rfl h5 ?_
  refine JL_passed rfl rfl rfl h5 ?_
  refine JL_passed rfl rfl rfl h5 ?_
  refine JL_passed rfl rfl rfl h5 ?_
  refine JL_passed rfl rfl rfl h5 ?_
  refine JL_q wn rfl (ex_pick_false rfl h5 rfl) ?_
  refine JM rfl rfl ?_
  refine JL_passed rfl rfl rfl rfl ?_
  refine JL_passed rfl rfl rfl rfl ?_
  refine JL_passed rfl rfl rfl rfl ?_
  refine JL_passed rfl rfl rfl rfl ?_
  refine JL_passed rfl rfl rfl rfl ?_
  refine JL_q wn rfl (ex_pick_false rfl rfl rfl) ?_
  refine JA rfl rfl ?_
  refine JL_nt ?_
  refine J_ret ?_
  exact N_ret1 rfl (rv_tmp rfl) (fun w hh => ⟨(), rfl, hh.sel [] rfl⟩)
set_option maxHeartbeats 40000000 in
theorem c_impl_ValidConfig (A : Nat → Prop) (w : World) (hA : ∀ k, A k → k < w.heap.size) (v0_ : Value) (p0 : GMachine) (hp0 : Rd A w v0_ p0) (v1_ : Value) (p1 : GConfig) (hp1 : Rd A w v1_ p1) (r : Bool) (hr : F_impl_ValidConfig p0 p1 = some r) :
  Con Tryz.prog 23 [v0_, v1_] A w (fun x_ : Unit => .bool r) (fun x_ => []) := by
 obtain ⟨v0_0, rfl, hp0_0⟩ := GMachine.open hp0
 obtain ⟨v1_0, v1_1, rfl, hp1_0, hp1_1⟩ := GConfig.open hp1
 refine Con_of (v := fun (r : Bool) (x_ : Unit) => .bool r) (fs := fun r x_ => []) Tryz.func23 rfl Tryz.ntmps23 rfl ((((SH.start hA).start_rd rfl hp0_0).start_rd rfl hp1_0).start_rd rfl hp1_1) rfl ?_ hr
 unfold F_impl_ValidConfig
 refine J_sr ?_
 refine JL_st wn rfl (st_box' rfl (fun w hh => (cv_aggs ⟨cv_int, cv_int, (hh.cv 2 rfl), trivial⟩))) (fun b1 => ?_)
 refine JL_st wn rfl (st_box' rfl (fun w hh => (cv_aggs ⟨cv_int, (hh.cv 2 rfl), (hh.cv 1 rfl), trivial⟩))) (fun b2 => ?_)
 refine JA rfl rfl ?_
 refine JL_nt ?_
 refine J_sr ?_
 refine JL_q wn rfl (ex_load_bx_agg 1 ti_26 rfl rfl rfl rfl) ?_
 refine JL_bnd fun r3 hr4 => ?_
 refine JL_call wn rfl Tryz.call28 rfl (Ca_of0 fun w hh => c_impl_ValidMachine _ w (fun _ hk => hk.elim) _ _ (GMachine.rdmk (Rd.mk_int _ _ _) (Rd.mk_int _ _ _) (hh.rd0 4 rfl)) _ hr4) (fun _ => ?_)
 refine JM rfl rfl ?_
 refine JL_cond (fun h5 => ?_) (fun h5 => ?_)
 ·refine JL_q (wants_some rfl rfl rfl h5) rfl (ex_load_bx_agg 1 ti_26 rfl rfl rfl rfl) ?_
  refine JL_q (wants_some rfl rfl rfl h5) rfl (ex_load_bx_agg 0 ti_29 rfl rfl rfl rfl) ?_
  refine JL_bnd fun r6 hr7 => ?_
  refine JL_call (wants_some rfl rfl rfl h5) rfl Tryz.call63 rfl (Ca_of0 fun w hh => c_impl_configOf _ w (fun _ hk => hk.elim) _ _ (GMachine.rdmk (Rd.mk_int _ _ _) (Rd.mk_int _ _ _) (hh.rd0 4 rfl)) _ _ (GConfig.rdmk (Rd.mk_int _ _ _) (hh.rd0 3 rfl) (hh.rd0 2 rfl)) _ hr7) (fun _ => ?_)
  refine JL_q wn rfl (ex_pick_true rfl h5 rfl) ?_
  refine JA rfl rfl ?_
  refine JL_nt ?_
  refine J_ret ?_
  exact N_ret1 rfl (rv_tmp rfl) (fun w hh => ⟨(), rfl, hh.sel [] rfl⟩)
 ·refine JL_passed rfl rfl rfl h5 ?_
  refine JL_passed rfl rfl rfl h5 ?_
  refine JL_passed rfl rfl rfl h5 ?_
  refine JL_q wn rfl (ex_pick_false rfl h5 rfl) ?_
  refine JA rfl rfl ?_
  refine JL_nt ?_
  refine J_ret ?_
  exact N_ret1 rfl (rv_tmp rfl) (fun w hh => ⟨(), rfl, hh.sel [] rfl⟩)
set_option maxHeartbeats 40000000 in
theorem c_impl_budgetOk (A : Nat → Prop) (w : World) (hA : ∀ k, A k → k < w.heap.size) (p0 : Int) (r : Bool) (hr : F_impl_budgetOk p0 = some r) :
  Con Tryz.prog 24 [.int .i64 p0] A w (fun x_ : Unit => .bool r) (fun x_ => []) := by
 refine Con_of (v := fun (r : Bool) (x_ : Unit) => .bool r) (fs := fun r x_ => []) Tryz.func24 rfl Tryz.ntmps24 rfl (SH.start hA) rfl ?_ hr
 unfold F_impl_budgetOk
 refine J_sr ?_
 refine JA rfl rfl ?_
 refine JL_nt ?_
 refine J_sr ?_
 refine JM rfl rfl ?_
 refine JL_bnd fun r1 hr2 => ?_
 refine JL_call wn rfl Tryz.call64 rfl (Ca_of0 fun w hh => c_impl_within _ w (fun _ hk => hk.elim) _ _ _ _ hr2) (fun _ => ?_)
 refine JA rfl rfl ?_
 refine JL_nt ?_
 refine J_ret ?_
 exact N_ret1 rfl (rv_tmp rfl) (fun w hh => ⟨(), rfl, hh.sel [] rfl⟩)
end Go.Proofs.YtlepdmenejbleaaGreat
