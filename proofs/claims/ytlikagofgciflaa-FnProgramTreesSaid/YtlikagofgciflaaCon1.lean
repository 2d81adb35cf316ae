/-
  Each function of the program computes what its plain function says: printed by program. No condition.
-/
import Derived.Test.YtlikagofgciflaaFn
import Derived.Test.YtlikagofgciflaaInf
namespace Go.Proofs.Ytlikagofgciflaa
open Go Go.Tc Go.Fn
set_option linter.unusedVariables false
set_option maxHeartbeats 40000000 in
theorem c_laws_r8Long (A : Nat → Prop) (w : World) (hA : ∀ k, A k → k < w.heap.size) (v0_ : Value) (p0 : (List (Ik .u8))) (hp0 : Rd A w v0_ p0) (v1_ : Value) (p1 : (List (Ik .u8))) (hp1 : Rd A w v1_ p1) (r : Bool) (hr : F_laws_r8Long p0 p1 = some r) :
  Con Try.prog 4 [v0_, v1_] A w (fun x_ : Unit => .bool r) (fun x_ => []) := by
 refine Con_of (v := fun (r : Bool) (x_ : Unit) => .bool r) (fs := fun r x_ => []) Try.func4 rfl Try.ntmps4 rfl (((SH.start hA).start_rd rfl hp0).start_rd rfl hp1) rfl ?_ hr
 unfold F_laws_r8Long
 refine J_sr ?_
 refine JA rfl rfl ?_
 refine JL_nt ?_
 refine J_sr ?_
 refine JM rfl rfl ?_
 refine JL_q wn rfl (ex_len_rd 1 Try.underlying22 rfl rfl) ?_
 refine JL_q wn rfl (ex_gtr rfl rfl) ?_
 refine JM rfl rfl ?_
 refine JL_cond (fun h1 => ?_) (fun h1 => ?_)
 ·refine JL_passed rfl rfl rfl h1 ?_
  refine JL_passed rfl rfl rfl h1 ?_
  refine JL_passed rfl rfl rfl h1 ?_
  refine JL_q wn rfl (ex_pick_true rfl h1 rfl) ?_
  refine JA rfl rfl ?_
  refine JL_nt ?_
  refine J_ret ?_
  exact N_ret1 rfl (rv_tmp rfl) (fun w hh => ⟨(), rfl, hh.sel [] rfl⟩)
 ·refine JL_q (wants_some rfl rfl rfl h1) rfl (ex_move rfl) ?_
  refine JL_q (wants_some rfl rfl rfl h1) rfl (ex_len_rd 0 Try.underlying22 rfl rfl) ?_
  refine JL_q (wants_some rfl rfl rfl h1) rfl (ex_gtr rfl rfl) ?_
  refine JL_q wn rfl (ex_pick_false rfl h1 rfl) ?_
  refine JA rfl rfl ?_
  refine JL_nt ?_
  refine J_ret ?_
  exact N_ret1 rfl (rv_tmp rfl) (fun w hh => ⟨(), rfl, hh.sel [] rfl⟩)
set_option maxHeartbeats 40000000 in
theorem c_spec_l00From (A : Nat → Prop) (w : World) (hA : ∀ k, A k → k < w.heap.size) (v0_ : Value) (p0 : (List (Ik .u8))) (hp0 : Rd A w v0_ p0) (r : ((List (Ik .u8)) × Int × (Ik .u64))) (hr : F_spec_l00From p0 = some r) :
  Con Try.prog 13 [v0_] A w (fun x_ : Value × Nat => .pointer (some ⟨x_.2, 0, none⟩)) (fun x_ => [.pr (Sub v0_ p0 x_.1 r.1), .bx x_.2 58 [x_.1, .int .i64 r.2.1, .int .u64 r.2.2.val]]) := by
 refine Con_of (v := fun (r : ((List (Ik .u8)) × Int × (Ik .u64))) (x_ : Value × Nat) => .pointer (some ⟨x_.2, 0, none⟩)) (fs := fun r x_ => [.pr (Sub v0_ p0 x_.1 r.1), .bx x_.2 58 [x_.1, .int .i64 r.2.1, .int .u64 r.2.2.val]]) Try.func13 rfl Try.ntmps13 rfl ((SH.start hA).start_rd rfl hp0) rfl ?_ hr
 unfold F_spec_l00From
 refine J_sr ?_
 refine JA rfl rfl ?_
 refine JL_nt ?_
 refine J_sr ?_
 refine JM rfl rfl ?_
 refine JL_q wn rfl (ex_build si_58 rfl (.cons fi_58_0 rfl rfl .nil) (fun w hh => ⟨(hh.cv 0 rfl), trivial⟩)) ?_
 refine JL_st wn rfl (st_box' rfl (fun w hh => (cv_aggs ⟨(hh.cv 0 rfl), cv_int, cv_int, trivial⟩))) (fun b1 => ?_)
 refine JA rfl rfl ?_
 refine JL_nt ?_
 refine J_ret ?_
 refine N_ctx (fun w hh => hh.cons_pr (p := Sub v0_ p0 v0_ p0) Sub.refl) ?_
 exact N_ret1 rfl (rv_tmp rfl) (fun w hh => ⟨(v0_, b1), rfl, hh.sel [0, 1] rfl⟩)
set_option maxHeartbeats 40000000 in
theorem c_spec_l00Src_next (w : World) (b0_ : Nat) (p0 : Gl00Src) (v0_0 : Value) (B_ : List Nat) (hB_ : Ctx.owns [.bx b0_ 58 [v0_0, .int .i64 p0.at_, .int .u64 p0.seed.val]] = B_) (hn_ : PHanded w [.bx b0_ 58 [v0_0, .int .i64 p0.at_, .int .u64 p0.seed.val]]) (hp0_0 : Rd (fun k => k ∈ B_) w v0_0 p0.code) (r : (Int) × (Int × (Ik .u64))) (hr : F_spec_l00Src_next p0 = some r) :
  PtrCon Try.prog 51 [.pointer (some ⟨b0_, 0, none⟩)] w B_ (fun x_ : Unit => .int .i64 r.1) (fun x_ => [.bx b0_ 58 [v0_0, .int .i64 r.2.1, .int .u64 r.2.2.val]]) := by
 refine PtrCon_of (v := fun (r : (Int) × (Int × (Ik .u64))) (x_ : Unit) => .int .i64 r.1) (fs := fun r x_ => [.bx b0_ 58 [v0_0, .int .i64 r.2.1, .int .u64 r.2.2.val]]) Try.func51 rfl Try.ntmps51 rfl (show SH nowhere (bare w) w [.rd v0_0 p0.code, .bx b0_ 58 [v0_0, .int .i64 p0.at_, .int .u64 p0.seed.val], .tkn (.int .i64 0) (0 : Int) (restL w B_), rest w B_] from ((SH.begin hB_ hn_).cons_apart hB_ hp0_0)) rfl ?_ hr
 unfold F_spec_l00Src_next
 refine J_sr ?_
 refine JA rfl rfl ?_
 refine JL_nt ?_
 refine J_sr ?_
 refine JA rfl rfl ?_
 refine JL_nt ?_
 refine J_seq ?_
 refine J_cut' (S' := Int) (G' := Unit) (fun s1 _ => [(0, .pointer (some ⟨b0_, 0, none⟩)), (3, .int .i64 s1)]) (fun s1 _ => [rest w B_, .rd v0_0 p0.code, .bx b0_ 58 [v0_0, .int .i64 p0.at_, .int .u64 p0.seed.val], .tkn (.int .i64 0) (0 : Int) (restL w B_)]) ?_ (fun s1 g2 => ?_)
 ·refine J_seq ?_
  refine J_draw [] (by kernel_rfl) ?_
  refine JP_take (i := 0) [0, 1, 2, 3] [] rfl (by kernel_rfl) (by kernel_rfl) (by kernel_rfl) rfl rfl wn rfl (ex_move rfl) ?_
  refine JP_take (i := 1) [0, 1, 2, 3] [] rfl (by kernel_rfl) (by kernel_rfl) (by kernel_rfl) rfl rfl wn rfl (ex_nilCheck rfl) ?_
  refine JP_take (i := 2) [0, 1, 2, 3] [] rfl (by kernel_rfl) (by kernel_rfl) (by kernel_rfl) rfl rfl wn rfl (ex_fieldAddr fi_58_1 rfl rfl) ?_
  refine JP_take (i := 3) [0, 1, 2, 3] [] rfl (by kernel_rfl) (by kernel_rfl) (by kernel_rfl) rfl rfl wn rfl (ex_load_bx 1 ti_3 rfl rfl rfl) ?_
  refine JP_take (i := 4) [0, 1, 2, 3] [] rfl (by kernel_rfl) (by kernel_rfl) (by kernel_rfl) rfl rfl wn rfl (ex_move rfl) ?_
  refine JP_take (i := 5) [0, 1, 2, 3] [] rfl (by kernel_rfl) (by kernel_rfl) (by kernel_rfl) rfl rfl wn rfl (ex_nilCheck rfl) ?_
  refine JP_take (i := 6) [0, 1, 2, 3] [] rfl (by kernel_rfl) (by kernel_rfl) (by kernel_rfl) rfl rfl wn rfl (ex_fieldAddr fi_58_0 rfl rfl) ?_
  refine JP_take (i := 7) [0, 1, 2, 3] [] rfl (by kernel_rfl) (by kernel_rfl) (by kernel_rfl) rfl rfl wn rfl (ex_load_bx 1 ti_22 rfl rfl rfl) ?_
  refine JP_take (i := 8) [0, 1, 2, 3] [] rfl (by kernel_rfl) (by kernel_rfl) (by kernel_rfl) rfl rfl wn rfl (ex_len_rd 0 Try.underlying22 rfl rfl) ?_
  refine JP_take (i := 9) [0, 1, 2, 3] [] rfl (by kernel_rfl) (by kernel_rfl) (by kernel_rfl) rfl rfl wn rfl (ex_lss rfl rfl) ?_
  refine JP_go [] [] rfl rfl rfl (fun _ _ _ => ?_)
  refine JD_done (by kernel_rfl) ?_
  refine N_then ?_
  refine J_if rfl (fun h3 => ?_) (fun h3 => ?_)
  ·refine J_draw [] (by kernel_rfl) ?_
   refine JP_take (i := 0) [0, 1, 2, 3] [] rfl (by kernel_rfl) (by kernel_rfl) (by kernel_rfl) rfl rfl wn rfl (ex_move rfl) ?_
   refine JP_take (i := 1) [0, 1, 2, 3] [] rfl (by kernel_rfl) (by kernel_rfl) (by kernel_rfl) rfl rfl wn rfl (ex_nilCheck rfl) ?_
   refine JP_take (i := 2) [0, 1, 2, 3] [] rfl (by kernel_rfl) (by kernel_rfl) (by kernel_rfl) rfl rfl wn rfl (ex_fieldAddr fi_58_0 rfl rfl) ?_
   refine JP_take (i := 3) [0, 1, 2, 3] [] rfl (by kernel_rfl) (by kernel_rfl) (by kernel_rfl) rfl rfl wn rfl (ex_load_bx 1 ti_22 rfl rfl rfl) ?_
   refine JP_take (i := 4) [0, 1, 2, 3] [] rfl (by kernel_rfl) (by kernel_rfl) (by kernel_rfl) rfl rfl wn rfl (ex_move rfl) ?_
   refine JP_take (i := 5) [0, 1, 2, 3] [] rfl (by kernel_rfl) (by kernel_rfl) (by kernel_rfl) rfl rfl wn rfl (ex_nilCheck rfl) ?_
   refine JP_take (i := 6) [0, 1, 2, 3] [] rfl (by kernel_rfl) (by kernel_rfl) (by kernel_rfl) rfl rfl wn rfl (ex_fieldAddr fi_58_1 rfl rfl) ?_
   refine JP_take (i := 7) [0, 1, 2, 3] [] rfl (by kernel_rfl) (by kernel_rfl) (by kernel_rfl) rfl rfl wn rfl (ex_load_bx 1 ti_3 rfl rfl rfl) ?_
   refine JP_bnd fun y4 hy5 => ?_
   refine JP_sq (i := 8) [] rfl (by kernel_rfl) (by kernel_rfl) (by kernel_rfl) rfl wn rfl (sq_index 0 Try.underlying22 ti_5 rfl rfl rfl hy5) (fun q6 => ?_)
   refine JP_sq (i := 9) [] rfl (by kernel_rfl) (by kernel_rfl) (by kernel_rfl) rfl wn rfl (sq_load_pt_o 0 (opens_ik _) ti_5 rfl rfl) (fun _ => ?_)
   refine JP_take (i := 10) [0, 1, 2, 3, 4] [] rfl (by kernel_rfl) (by kernel_rfl) (by kernel_rfl) rfl rfl wn rfl (ex_conv_i64 Try.underlying5 Try.underlying3 rfl) ?_
   refine JP_take (i := 11) [0, 1, 2, 3, 4] [] rfl (by kernel_rfl) (by kernel_rfl) (by kernel_rfl) rfl rfl wn rfl (ex_assign rfl) ?_
   refine JP_go [] [] rfl rfl rfl (fun _ _ _ => ?_)
   refine JD_done (by kernel_rfl) ?_
   exact N_meet' () ⟨rfl, rfl, trivial⟩ [4, 1, 2, 3] rfl rfl
  ·refine J_skip ?_
   exact N_meet' () ⟨rfl, rfl, trivial⟩ [3, 0, 1, 2] rfl rfl
 ·refine N_then ?_
  refine J_sr ?_
  refine JM rfl rfl ?_
  refine JL_q wn rfl (ex_nilCheck rfl) ?_
  refine JL_q wn rfl (ex_fieldAddr fi_58_1 rfl rfl) ?_
  refine JL_q wn rfl (ex_load_bx 2 ti_3 rfl rfl rfl) ?_
  refine JL_q wn rfl (ex_add rfl rfl) ?_
  refine JL_q wn rfl (ex_nilCheck rfl) ?_
  refine JL_q wn rfl (ex_fieldAddr fi_58_1 rfl rfl) ?_
  refine JL_sk wn (sk_store_bx' 2 ti_3 rfl rfl (fun w hh => cv_int) rfl rfl rfl rfl) ?_
  refine JL_nt ?_
  refine J_sr ?_
  refine JM rfl rfl ?_
  refine JM rfl rfl ?_
  refine JL_q wn rfl (ex_nilCheck rfl) ?_
  refine JL_q wn rfl (ex_fieldAddr fi_58_2 rfl rfl) ?_
  refine JL_q wn rfl (ex_load_bx 2 ti_56 rfl rfl rfl) ?_
  refine JL_q wn rfl (ex_mulk rfl rfl) ?_
  refine JM rfl rfl ?_
  refine JL_q wn rfl (ex_conv_ik Try.underlying3 Try.underlying56 rfl) ?_
  refine JL_q wn rfl (ex_addk rfl rfl) ?_
  refine JL_q wn rfl (ex_addk rfl rfl) ?_
  refine JL_q wn rfl (ex_nilCheck rfl) ?_
  refine JL_q wn rfl (ex_fieldAddr fi_58_2 rfl rfl) ?_
  refine JL_sk wn (sk_store_bx' 2 ti_56 rfl rfl (fun w hh => cv_int) rfl rfl rfl rfl) ?_
  refine JL_nt ?_
  refine J_seq ?_
  refine J_seq ?_
  refine J_draw [] (by kernel_rfl) ?_
  refine JP_take (i := 0) [0, 1, 2, 3] [] rfl (by kernel_rfl) (by kernel_rfl) (by kernel_rfl) rfl rfl wn rfl (ex_move rfl) ?_
  refine JP_take (i := 1) [0, 1, 2, 3] [] rfl (by kernel_rfl) (by kernel_rfl) (by kernel_rfl) rfl rfl wn rfl (ex_nilCheck rfl) ?_
  refine JP_take (i := 2) [0, 1, 2, 3] [] rfl (by kernel_rfl) (by kernel_rfl) (by kernel_rfl) rfl rfl wn rfl (ex_fieldAddr fi_58_1 rfl rfl) ?_
  refine JP_take (i := 3) [0, 1, 2, 3] [] rfl (by kernel_rfl) (by kernel_rfl) (by kernel_rfl) rfl rfl wn rfl (ex_load_bx 2 ti_3 rfl rfl rfl) ?_
  refine JP_take (i := 4) [0, 1, 2, 3] [] rfl (by kernel_rfl) (by kernel_rfl) (by kernel_rfl) rfl rfl wn rfl (ex_move rfl) ?_
  refine JP_take (i := 5) [0, 1, 2, 3] [] rfl (by kernel_rfl) (by kernel_rfl) (by kernel_rfl) rfl rfl wn rfl (ex_nilCheck rfl) ?_
  refine JP_take (i := 6) [0, 1, 2, 3] [] rfl (by kernel_rfl) (by kernel_rfl) (by kernel_rfl) rfl rfl wn rfl (ex_fieldAddr fi_58_0 rfl rfl) ?_
  refine JP_take (i := 7) [0, 1, 2, 3] [] rfl (by kernel_rfl) (by kernel_rfl) (by kernel_rfl) rfl rfl wn rfl (ex_load_bx 2 ti_22 rfl rfl rfl) ?_
  refine JP_take (i := 8) [0, 1, 2, 3] [] rfl (by kernel_rfl) (by kernel_rfl) (by kernel_rfl) rfl rfl wn rfl (ex_len_rd 1 Try.underlying22 rfl rfl) ?_
  refine JP_take (i := 9) [0, 1, 2, 3] [] rfl (by kernel_rfl) (by kernel_rfl) (by kernel_rfl) rfl rfl wn rfl (ex_leq rfl rfl) ?_
  refine JP_go [] [] rfl rfl rfl (fun _ _ _ => ?_)
  refine JD_done (by kernel_rfl) ?_
  refine N_then ?_
  refine J_if rfl (fun h8 => ?_) (fun h8 => ?_)
  ·refine J_sr ?_
   refine JM rfl rfl ?_
   refine JA rfl rfl ?_
   refine JL_nt ?_
   refine J_ret ?_
   refine N_then_ret ?_
   exact N_ret1 rfl (rv_tmp rfl) (fun w hh => ⟨(), rfl, hh.sel [2, 3, 0] rfl⟩)
  ·refine J_skip ?_
   refine N_then ?_
   refine J_sr ?_
   refine JM rfl rfl ?_
   refine JL_q wn rfl (ex_nilCheck rfl) ?_
   refine JL_q wn rfl (ex_fieldAddr fi_58_2 rfl rfl) ?_
   refine JL_q wn rfl (ex_load_bx 2 ti_56 rfl rfl rfl) ?_
   refine JL_q wn rfl (ex_shrk rfl rfl (by decide)) ?_
   refine JL_q wn rfl (ex_andk rfl rfl) ?_
   refine JL_q wn rfl (ex_conv_i64 Try.underlying56 Try.underlying2 rfl) ?_
   refine JA rfl rfl ?_
   refine JL_nt ?_
   refine J_ret ?_
   exact N_ret1 rfl (rv_tmp rfl) (fun w hh => ⟨(), rfl, hh.sel [2, 3, 0] rfl⟩)
set_option maxHeartbeats 40000000 in
theorem c_spec_l00Src_pick (w : World) (b0_ : Nat) (p0 : Gl00Src) (v0_0 : Value) (B_ : List Nat) (hB_ : Ctx.owns [.bx b0_ 58 [v0_0, .int .i64 p0.at_, .int .u64 p0.seed.val]] = B_) (hn_ : PHanded w [.bx b0_ 58 [v0_0, .int .i64 p0.at_, .int .u64 p0.seed.val]]) (hp0_0 : Rd (fun k => k ∈ B_) w v0_0 p0.code) (p1 : Int) (r : (Int) × (Int × (Ik .u64))) (hr : F_spec_l00Src_pick p0 p1 = some r) :
  PtrCon Try.prog 29 [.pointer (some ⟨b0_, 0, none⟩), .int .i64 p1] w B_ (fun x_ : Unit => .int .i64 r.1) (fun x_ => [.bx b0_ 58 [v0_0, .int .i64 r.2.1, .int .u64 r.2.2.val]]) := by
 refine PtrCon_of (v := fun (r : (Int) × (Int × (Ik .u64))) (x_ : Unit) => .int .i64 r.1) (fs := fun r x_ => [.bx b0_ 58 [v0_0, .int .i64 r.2.1, .int .u64 r.2.2.val]]) Try.func29 rfl Try.ntmps29 rfl (show SH nowhere (bare w) w [.rd v0_0 p0.code, .bx b0_ 58 [v0_0, .int .i64 p0.at_, .int .u64 p0.seed.val], .tkn (.int .i64 0) (0 : Int) (restL w B_), rest w B_] from ((SH.begin hB_ hn_).cons_apart hB_ hp0_0)) rfl ?_ hr
 unfold F_spec_l00Src_pick
 refine J_sr ?_
 refine JA rfl rfl ?_
 refine JL_nt ?_
 refine J_seq ?_
 refine J_sr ?_
 refine JM rfl rfl ?_
 refine JL_q wn rfl (ex_leq rfl rfl) ?_
 refine JL_nt ?_
 refine J_if rfl (fun h1 => ?_) (fun h1 => ?_)
 ·refine J_sr ?_
  refine JA rfl rfl ?_
  refine JL_nt ?_
  refine J_ret ?_
  refine N_then_ret ?_
  exact N_ret1 rfl (rv_tmp rfl) (fun w hh => ⟨(), rfl, hh.sel [1, 2, 3] rfl⟩)
 ·refine J_skip ?_
  refine N_then ?_
  refine J_sr ?_
  refine JM rfl rfl ?_
  refine JL_bnd fun r2 hr3 => ?_
  refine JL_callT wn rfl Try.call51 rfl (CaT_of [1] [0, 2, 3] rfl rfl (fun _ => rfl) fun w hh => c_spec_l00Src_next w b0_ p0 v0_0 _ rfl (hh.handed [1] rfl rfl rfl rfl) (hh.apart [1] rfl (hh.rd 0 rfl)) _ hr3) (fun _ => ?_)
  refine JA rfl rfl ?_
  refine JL_nt ?_
  refine J_seq ?_
  refine J_sr ?_
  refine JM rfl rfl ?_
  refine JL_q wn rfl (ex_gtr rfl rfl) ?_
  refine JL_nt ?_
  refine J_if rfl (fun h4 => ?_) (fun h4 => ?_)
  ·refine J_region ?_
   refine JM rfl rfl ?_
   refine JL_q wn rfl (ex_mul rfl rfl) ?_
   refine JM rfl rfl ?_
   refine JL_bnd fun r5 hr6 => ?_
   refine JL_callT wn rfl Try.call51 rfl (CaT_of [0] [1, 2, 3] rfl rfl (fun _ => rfl) fun w hh => c_spec_l00Src_next w b0_ (⟨p0.code, r2.2.1, r2.2.2⟩ : Gl00Src) v0_0 _ rfl (hh.handed [0] rfl rfl rfl rfl) (hh.apart [0] rfl (hh.rd 1 rfl)) _ hr6) (fun _ => ?_)
   refine JL_q wn rfl (ex_add rfl rfl) ?_
   refine JA rfl rfl ?_
   refine JL_nt ?_
   refine J_sr ?_
   refine JM rfl rfl ?_
   refine JM rfl rfl ?_
   refine JL_bnd fun u7 hu8 => ?_
   refine JL_q wn rfl (ex_rem rfl rfl (nz_ne hu8)) ?_
   refine JA rfl rfl ?_
   refine JL_nt ?_
   refine J_ret ?_
   exact N_ret1 rfl (rv_tmp rfl) (fun w hh => ⟨(), rfl, hh.sel [0, 2, 3] rfl⟩)
  ·refine J_skip ?_
   refine N_then ?_
   refine J_sr ?_
   refine JM rfl rfl ?_
   refine JM rfl rfl ?_
   refine JL_bnd fun u9 hu10 => ?_
   refine JL_q wn rfl (ex_rem rfl rfl (nz_ne hu10)) ?_
   refine JA rfl rfl ?_
   refine JL_nt ?_
   refine J_ret ?_
   exact N_ret1 rfl (rv_tmp rfl) (fun w hh => ⟨(), rfl, hh.sel [0, 2, 3] rfl⟩)
set_option maxHeartbeats 40000000 in
theorem c_spec_l00Src_one (w : World) (b0_ : Nat) (p0 : Gl00Src) (v0_0 : Value) (B_ : List Nat) (hB_ : Ctx.owns [.bx b0_ 58 [v0_0, .int .i64 p0.at_, .int .u64 p0.seed.val]] = B_) (hn_ : PHanded w [.bx b0_ 58 [v0_0, .int .i64 p0.at_, .int .u64 p0.seed.val]]) (hp0_0 : Rd (fun k => k ∈ B_) w v0_0 p0.code) (p1 : Int) (r : (Bool) × (Int × (Ik .u64))) (hr : F_spec_l00Src_one p0 p1 = some r) :
  PtrCon Try.prog 26 [.pointer (some ⟨b0_, 0, none⟩), .int .i64 p1] w B_ (fun x_ : Unit => .bool r.1) (fun x_ => [.bx b0_ 58 [v0_0, .int .i64 r.2.1, .int .u64 r.2.2.val]]) := by
 refine PtrCon_of (v := fun (r : (Bool) × (Int × (Ik .u64))) (x_ : Unit) => .bool r.1) (fs := fun r x_ => [.bx b0_ 58 [v0_0, .int .i64 r.2.1, .int .u64 r.2.2.val]]) Try.func26 rfl Try.ntmps26 rfl (show SH nowhere (bare w) w [.rd v0_0 p0.code, .bx b0_ 58 [v0_0, .int .i64 p0.at_, .int .u64 p0.seed.val], .tkn (.int .i64 0) (0 : Int) (restL w B_), rest w B_] from ((SH.begin hB_ hn_).cons_apart hB_ hp0_0)) rfl ?_ hr
 unfold F_spec_l00Src_one
 refine J_sr ?_
 refine JA rfl rfl ?_
 refine JL_nt ?_
 refine J_sr ?_
 refine JM rfl rfl ?_
 refine JM rfl rfl ?_
 refine JL_bnd fun r1 hr2 => ?_
 refine JL_callT wn rfl Try.call29 rfl (CaT_of [1] [0, 2, 3] rfl rfl (fun _ => rfl) fun w hh => c_spec_l00Src_pick w b0_ p0 v0_0 _ rfl (hh.handed [1] rfl rfl rfl rfl) (hh.apart [1] rfl (hh.rd 0 rfl)) _ _ hr2) (fun _ => ?_)
 refine JL_q wn rfl (ex_eql rfl rfl) ?_
 refine JA rfl rfl ?_
 refine JL_nt ?_
 refine J_ret ?_
 exact N_ret1 rfl (rv_tmp rfl) (fun w hh => ⟨(), rfl, hh.sel [0, 2, 3] rfl⟩)
set_option maxHeartbeats 40000000 in
theorem c_spec_l00Src_text (w : World) (b0_ : Nat) (p0 : Gl00Src) (v0_0 : Value) (B_ : List Nat) (hB_ : Ctx.owns [.bx b0_ 58 [v0_0, .int .i64 p0.at_, .int .u64 p0.seed.val]] = B_) (hn_ : PHanded w [.bx b0_ 58 [v0_0, .int .i64 p0.at_, .int .u64 p0.seed.val]]) (hp0_0 : Rd (fun k => k ∈ B_) w v0_0 p0.code) (v1_ : Value) (p1 : (List ByteArray)) (hp1 : Rd (fun k => k ∈ B_) w v1_ p1) (r : (ByteArray) × (Int × (Ik .u64))) (hr : F_spec_l00Src_text p0 p1 = some r) :
  PtrCon Try.prog 28 [.pointer (some ⟨b0_, 0, none⟩), v1_] w B_ (fun x_ : Unit => .string r.1) (fun x_ => [.bx b0_ 58 [v0_0, .int .i64 r.2.1, .int .u64 r.2.2.val]]) := by
 refine PtrCon_of (v := fun (r : (ByteArray) × (Int × (Ik .u64))) (x_ : Unit) => .string r.1) (fs := fun r x_ => [.bx b0_ 58 [v0_0, .int .i64 r.2.1, .int .u64 r.2.2.val]]) Try.func28 rfl Try.ntmps28 rfl (show SH nowhere (bare w) w [.rd v1_ p1, .rd v0_0 p0.code, .bx b0_ 58 [v0_0, .int .i64 p0.at_, .int .u64 p0.seed.val], .tkn (.int .i64 0) (0 : Int) (restL w B_), rest w B_] from (((SH.begin hB_ hn_).cons_apart hB_ hp0_0).cons_apart hB_ hp1)) rfl ?_ hr
 unfold F_spec_l00Src_text
 refine J_sr ?_
 refine JA rfl rfl ?_
 refine JL_nt ?_
 refine J_sr ?_
 refine JM rfl rfl ?_
 refine JM rfl rfl ?_
 refine JM rfl rfl ?_
 refine JL_q wn rfl (ex_len_rd 0 Try.underlying63 rfl rfl) ?_
 refine JL_bnd fun r1 hr2 => ?_
 refine JL_callT wn rfl Try.call29 rfl (CaT_of [2] [0, 1, 3, 4] rfl rfl (fun _ => rfl) fun w hh => c_spec_l00Src_pick w b0_ p0 v0_0 _ rfl (hh.handed [2] rfl rfl rfl rfl) (hh.apart [2] rfl (hh.rd 1 rfl)) _ _ hr2) (fun _ => ?_)
 refine JL_bnd fun y3 hy4 => ?_
 refine JL_st wn rfl (st_index 1 Try.underlying63 ti_9 rfl rfl rfl hy4) (fun q5 => ?_)
 refine JL_st wn rfl (st_load_pt_o 0 (opens_str _) ti_9 rfl rfl) (fun _ => ?_)
 refine JA rfl rfl ?_
 refine JL_nt ?_
 refine J_ret ?_
 exact N_ret1 rfl (rv_tmp rfl) (fun w hh => ⟨(), rfl, hh.sel [1, 4, 5] rfl⟩)
set_option maxHeartbeats 40000000 in
theorem c_spec_l01Digit (A : Nat → Prop) (w : World) (hA : ∀ k, A k → k < w.heap.size) (p0 : (Ik .u8)) (r : Bool) (hr : F_spec_l01Digit p0 = some r) :
  Con Try.prog 84 [.int .u8 p0.val] A w (fun x_ : Unit => .bool r) (fun x_ => []) := by
 refine Con_of (v := fun (r : Bool) (x_ : Unit) => .bool r) (fs := fun r x_ => []) Try.func84 rfl Try.ntmps84 rfl (SH.start hA) rfl ?_ hr
 unfold F_spec_l01Digit
 refine J_sr ?_
 refine JA rfl rfl ?_
 refine JL_nt ?_
 refine J_sr ?_
 refine JM rfl rfl ?_
 refine JL_q wn rfl (ex_geq rfl rfl) ?_
 refine JM rfl rfl ?_
 refine JL_cond (fun h1 => ?_) (fun h1 => ?_)
 ·refine JL_q (wants_some rfl rfl rfl h1) rfl (ex_move rfl) ?_
  refine JL_q (wants_some rfl rfl rfl h1) rfl (ex_leq rfl rfl) ?_
  refine JL_q wn rfl (ex_pick_true rfl h1 rfl) ?_
  refine JA rfl rfl ?_
  refine JL_nt ?_
  refine J_ret ?_
  exact N_ret1 rfl (rv_tmp rfl) (fun w hh => ⟨(), rfl, hh.sel [] rfl⟩)
 ·refine JL_passed rfl rfl rfl h1 ?_
  refine JL_passed rfl rfl rfl h1 ?_
  refine JL_q wn rfl (ex_pick_false rfl h1 rfl) ?_
  refine JA rfl rfl ?_
  refine JL_nt ?_
  refine J_ret ?_
  exact N_ret1 rfl (rv_tmp rfl) (fun w hh => ⟨(), rfl, hh.sel [] rfl⟩)
set_option maxHeartbeats 40000000 in
theorem c_spec_l22ReadExpr_ind : ∀ (k_ : Nat) (A : Nat → Prop) (w : World) (hA : ∀ k, A k → k < w.heap.size) (p0 : ByteArray) (p1 : Int) (p2 : Int) (r : (List GExpr) × Int × Bool) (hr : fixN (fun (rec_ : (ByteArray × Int × Int) → Option ((List GExpr) × Int × Bool)) (a_ : ByteArray × Int × Int) => F_spec_l22ReadExpr_step (fun p0 p1 p2 => rec_ (p0, p1, p2)) a_.1 a_.2.1 a_.2.2) k_ (p0, p1, p2) = some r),
  Con Try.prog 68 [.string p0, .int .i64 p1, .int .i64 p2] A w (fun x_ : Value => .tuple #[x_, .int .i64 r.2.1, .bool r.2.2]) (fun x_ => [.ow 67 x_ r.1]) := by
 intro k_
 induction k_ with
 | zero => intro A w hA p0 p1 p2 r hr; cases hr
 | succ k_ ih_ =>
 intro A w hA p0 p1 p2 r hr
 replace hr : F_spec_l22ReadExpr_step (fun p0 p1 p2 => fixN (fun (rec_ : (ByteArray × Int × Int) → Option ((List GExpr) × Int × Bool)) (a_ : ByteArray × Int × Int) => F_spec_l22ReadExpr_step (fun p0 p1 p2 => rec_ (p0, p1, p2)) a_.1 a_.2.1 a_.2.2) k_ (p0, p1, p2)) p0 p1 p2 = some r := hr
 refine Con_of (v := fun (r : (List GExpr) × Int × Bool) (x_ : Value) => .tuple #[x_, .int .i64 r.2.1, .bool r.2.2]) (fs := fun r x_ => [.ow 67 x_ r.1]) Try.func68 rfl Try.ntmps68 rfl (SH.start hA) rfl ?_ hr
 unfold F_spec_l22ReadExpr_step
 refine J_sr ?_
 refine JA rfl rfl ?_
 refine JA rfl rfl ?_
 refine JA rfl rfl ?_
 refine JL_nt ?_
 refine J_seq ?_
 refine J_cut' (S' := Unit) (G' := Unit) (fun _ _ => [(0, .string p0), (1, .int .i64 p1), (2, .int .i64 p2)]) (fun _ _ => []) ?_ (fun s1 g2 => ?_)
 ·refine J_sr ?_
  refine JM rfl rfl ?_
  refine JM rfl rfl ?_
  refine JL_q wn rfl (ex_len_str Try.underlying9 rfl) ?_
  refine JL_q wn rfl (ex_geq rfl rfl) ?_
  refine JM rfl rfl ?_
  refine JL_cond (fun h3 => ?_) (fun h3 => ?_)
  ·refine JL_passed rfl rfl rfl h3 ?_
   refine JL_passed rfl rfl rfl h3 ?_
   refine JL_q wn rfl (ex_pick_true rfl h3 rfl) ?_
   refine JL_nt ?_
   refine J_if_true rfl rfl ?_
   refine J_sr ?_
   refine JM rfl rfl ?_
   refine JA rfl rfl ?_
   refine JA rfl rfl ?_
   refine JA rfl rfl ?_
   refine JL_nt ?_
   refine J_ret ?_
   refine N_mid_ret ?_
   refine N_then_ret ?_
   refine N_ctx (fun w hh => SH.ow_nil (α := GExpr) 67 hh) ?_
   exact N_ret3 rfl (rv_tmp rfl) (rv_tmp rfl) (rv_tmp rfl) (fun w hh => ⟨(.slice none 0 0 : Value), rfl, hh.sel [0] rfl⟩)
  ·refine JL_q (wants_some rfl rfl rfl h3) rfl (ex_move rfl) ?_
   refine JL_q (wants_some rfl rfl rfl h3) rfl (ex_eql rfl rfl) ?_
   refine JL_q wn rfl (ex_pick_false rfl h3 rfl) ?_
   refine JL_nt ?_
   refine J_if rfl (fun h4 => ?_) (fun h4 => ?_)
   ·refine J_sr ?_
    refine JM rfl rfl ?_
    refine JA rfl rfl ?_
    refine JA rfl rfl ?_
    refine JA rfl rfl ?_
    refine JL_nt ?_
    refine J_ret ?_
    refine N_mid_ret ?_
    refine N_then_ret ?_
    refine N_ctx (fun w hh => SH.ow_nil (α := GExpr) 67 hh) ?_
    exact N_ret3 rfl (rv_tmp rfl) (rv_tmp rfl) (rv_tmp rfl) (fun w hh => ⟨(.slice none 0 0 : Value), rfl, hh.sel [0] rfl⟩)
   ·refine J_skip ?_
    exact N_meet' () ⟨rfl, rfl, rfl, trivial⟩ [] rfl rfl
 ·refine N_then ?_
  refine J_sr ?_
  refine JM rfl rfl ?_
  refine JM rfl rfl ?_
  refine JL_bnd fun y5 hy6 => ?_
  refine JL_q wn rfl (ex_index_str Try.underlying9 rfl rfl hy6) ?_
  refine JA rfl rfl ?_
  refine JL_nt ?_
  refine J_seq ?_
  refine J_sr ?_
  refine JM rfl rfl ?_
  refine JL_bnd fun r7 hr8 => ?_
  refine JL_call wn rfl Try.call84 rfl (Ca_of0 fun w hh => c_spec_l01Digit _ w (fun _ hk => hk.elim) _ _ hr8) (fun _ => ?_)
  refine JL_nt ?_
  refine J_if rfl (fun h9 => ?_) (fun h9 => ?_)
  ·refine J_sr ?_
   refine JM rfl rfl ?_
   refine JL_q wn rfl (ex_subk rfl rfl) ?_
   refine JL_q wn rfl (ex_conv_i64 Try.underlying5 Try.underlying2 rfl) ?_
   refine JL_q wn rfl (ex_build si_67 rfl (.cons fi_67_0 rfl rfl (.cons fi_67_1 rfl rfl .nil)) (fun w hh => ⟨cv_int, cv_int, trivial⟩)) ?_
   refine JL_st wn rfl (st_buildSlice (vs := [.agg #[.int .i64 1, .int .i64 (w64 (wk .u8 (y5 - 48)))]]) ([(⟨1, (w64 (wk .u8 (y5 - 48)))⟩ : GExpr)] : List GExpr) Try.underlying52 ti_67 zi_67 rfl rfl rfl (fun w hh => ⟨(GExpr.rdmk (Rd.mk_int _ _ _) (Rd.mk_int _ _ _)), trivial⟩)) (fun b10 => ?_)
   refine JM rfl rfl ?_
   refine JL_q wn rfl (ex_add rfl rfl) ?_
   refine JA rfl rfl ?_
   refine JA rfl rfl ?_
   refine JA rfl rfl ?_
   refine JL_nt ?_
   refine J_ret ?_
   refine N_then_ret ?_
   exact N_ret3 rfl (rv_tmp rfl) (rv_tmp rfl) (rv_tmp rfl) (fun w hh => ⟨(.slice (some ⟨b10, 0, none⟩) 1 1), rfl, hh.sel [0] rfl⟩)
  ·refine J_skip ?_
   refine N_then ?_
   refine J_seq ?_
   refine J_sr ?_
   refine JM rfl rfl ?_
   refine JL_q wn rfl (ex_eql rfl rfl) ?_
   refine JL_nt ?_
   refine J_if rfl (fun h11 => ?_) (fun h11 => ?_)
   ·refine J_sr ?_
    refine JL_q wn rfl (ex_build si_67 rfl .nil (fun w hh => trivial)) ?_
    refine JL_st wn rfl (st_buildSlice (vs := [.agg #[.int .i64 0, .int .i64 0]]) ([(⟨0, 0⟩ : GExpr)] : List GExpr) Try.underlying52 ti_67 zi_67 rfl rfl rfl (fun w hh => ⟨(GExpr.rdmk (Rd.mk_int _ _ _) (Rd.mk_int _ _ _)), trivial⟩)) (fun b12 => ?_)
    refine JM rfl rfl ?_
    refine JL_q wn rfl (ex_add rfl rfl) ?_
    refine JA rfl rfl ?_
    refine JA rfl rfl ?_
    refine JA rfl rfl ?_
    refine JL_nt ?_
    refine J_ret ?_
    refine N_then_ret ?_
    exact N_ret3 rfl (rv_tmp rfl) (rv_tmp rfl) (rv_tmp rfl) (fun w hh => ⟨(.slice (some ⟨b12, 0, none⟩) 1 1), rfl, hh.sel [0] rfl⟩)
   ·refine J_skip ?_
    refine N_then ?_
    refine J_seq ?_
    refine J_cut' (S' := Unit) (G' := Unit) (fun _ _ => [(0, .string p0), (1, .int .i64 p1), (2, .int .i64 p2), (9, .int .u8 y5)]) (fun _ _ => []) ?_ (fun s13 g14 => ?_)
    ·refine J_sr ?_
     refine JM rfl rfl ?_
     refine JL_q wn rfl (ex_eql rfl rfl) ?_
     refine JM rfl rfl ?_
     refine JL_cond (fun h15 => ?_) (fun h15 => ?_)
     ·refine JL_passed rfl rfl rfl h15 ?_
      refine JL_passed rfl rfl rfl h15 ?_
      refine JL_q wn rfl (ex_pick_true rfl h15 rfl) ?_
      refine JL_nt ?_
      refine J_if_true rfl rfl ?_
      refine J_sr ?_
      refine JM rfl rfl ?_
      refine JM rfl rfl ?_
      refine JL_q wn rfl (ex_add rfl rfl) ?_
      refine JM rfl rfl ?_
      refine JL_q wn rfl (ex_sub rfl rfl) ?_
      refine JL_bnd fun r16 hr17 => ?_
      refine JL_call wn rfl Try.call68 rfl (Ca_self (fun _ => rfl) fun w hh => ih_ _ w (fun _ hk => hk.elim) _ _ _ _ hr17) (fun x18 => ?_)
      refine JM rfl rfl ?_
      refine JL_q wn rfl (ex_extract rfl rfl) ?_
      refine JL_q wn rfl (ex_extract rfl rfl) ?_
      refine JL_q wn rfl (ex_extract rfl rfl) ?_
      refine JA rfl rfl ?_
      refine JA rfl rfl ?_
      refine JA rfl rfl ?_
      refine JL_nt ?_
      refine J_sr ?_
      refine JA rfl rfl ?_
      refine JL_nt ?_
      refine J_seq ?_
      refine J_sr ?_
      refine JM rfl rfl ?_
      refine JL_q wn rfl (ex_eql rfl rfl) ?_
      refine JL_nt ?_
      refine J_if rfl (fun h19 => ?_) (fun h19 => ?_)
      ·refine J_region ?_
       refine JA rfl rfl ?_
       refine JL_nt ?_
       refine J_sr ?_
       refine JM rfl rfl ?_
       refine JL_q wn rfl (ex_build si_67 rfl (.cons fi_67_0 rfl rfl .nil) (fun w hh => ⟨cv_int, trivial⟩)) ?_
       refine JL_st wn rfl (st_buildSlice (vs := [.agg #[.int .i64 4, .int .i64 0]]) ([(⟨4, 0⟩ : GExpr)] : List GExpr) Try.underlying52 ti_67 zi_67 rfl rfl rfl (fun w hh => ⟨(GExpr.rdmk (Rd.mk_int _ _ _) (Rd.mk_int _ _ _)), trivial⟩)) (fun b20 => ?_)
       refine JM rfl rfl ?_
       refine JL_bnd fun z21 hz22 => ?_
       refine JL_st wn rfl (st_append 0 Try.underlying52 ti_67 zi_67 rfl bi_67 rfl rfl rfl rfl (fun w hh => hh.src_ow 1 rfl) hz22) (fun v23 => ?_)
       refine JM rfl rfl ?_
       refine JM rfl rfl ?_
       refine JA rfl rfl ?_
       refine JA rfl rfl ?_
       refine JA rfl rfl ?_
       refine JL_nt ?_
       refine J_ret ?_
       refine N_mid_ret ?_
       refine N_then_ret ?_
       exact N_ret3 rfl (rv_tmp rfl) (rv_tmp rfl) (rv_tmp rfl) (fun w hh => ⟨v23, rfl, hh.sel [0] rfl⟩)
      ·refine J_skip ?_
       refine N_then ?_
       refine J_sr ?_
       refine JM rfl rfl ?_
       refine JL_q wn rfl (ex_build si_67 rfl (.cons fi_67_0 rfl rfl .nil) (fun w hh => ⟨cv_int, trivial⟩)) ?_
       refine JL_st wn rfl (st_buildSlice (vs := [.agg #[.int .i64 3, .int .i64 0]]) ([(⟨3, 0⟩ : GExpr)] : List GExpr) Try.underlying52 ti_67 zi_67 rfl rfl rfl (fun w hh => ⟨(GExpr.rdmk (Rd.mk_int _ _ _) (Rd.mk_int _ _ _)), trivial⟩)) (fun b24 => ?_)
       refine JM rfl rfl ?_
       refine JL_bnd fun z25 hz26 => ?_
       refine JL_st wn rfl (st_append 0 Try.underlying52 ti_67 zi_67 rfl bi_67 rfl rfl rfl rfl (fun w hh => hh.src_ow 1 rfl) hz26) (fun v27 => ?_)
       refine JM rfl rfl ?_
       refine JM rfl rfl ?_
       refine JA rfl rfl ?_
       refine JA rfl rfl ?_
       refine JA rfl rfl ?_
       refine JL_nt ?_
       refine J_ret ?_
       refine N_mid_ret ?_
       refine N_then_ret ?_
       exact N_ret3 rfl (rv_tmp rfl) (rv_tmp rfl) (rv_tmp rfl) (fun w hh => ⟨v27, rfl, hh.sel [0] rfl⟩)
     ·refine JL_q (wants_some rfl rfl rfl h15) rfl (ex_move rfl) ?_
      refine JL_q (wants_some rfl rfl rfl h15) rfl (ex_eql rfl rfl) ?_
      refine JL_q wn rfl (ex_pick_false rfl h15 rfl) ?_
      refine JL_nt ?_
      refine J_if rfl (fun h28 => ?_) (fun h28 => ?_)
      ·refine J_sr ?_
       refine JM rfl rfl ?_
       refine JM rfl rfl ?_
       refine JL_q wn rfl (ex_add rfl rfl) ?_
       refine JM rfl rfl ?_
       refine JL_q wn rfl (ex_sub rfl rfl) ?_
       refine JL_bnd fun r29 hr30 => ?_
       refine JL_call wn rfl Try.call68 rfl (Ca_self (fun _ => rfl) fun w hh => ih_ _ w (fun _ hk => hk.elim) _ _ _ _ hr30) (fun x31 => ?_)
       refine JM rfl rfl ?_
       refine JL_q wn rfl (ex_extract rfl rfl) ?_
       refine JL_q wn rfl (ex_extract rfl rfl) ?_
       refine JL_q wn rfl (ex_extract rfl rfl) ?_
       refine JA rfl rfl ?_
       refine JA rfl rfl ?_
       refine JA rfl rfl ?_
       refine JL_nt ?_
       refine J_sr ?_
       refine JA rfl rfl ?_
       refine JL_nt ?_
       refine J_seq ?_
       refine J_sr ?_
       refine JM rfl rfl ?_
       refine JL_q wn rfl (ex_eql rfl rfl) ?_
       refine JL_nt ?_
       refine J_if_true rfl h28 ?_
       refine J_region ?_
       refine JA rfl rfl ?_
       refine JL_nt ?_
       refine J_sr ?_
       refine JM rfl rfl ?_
       refine JL_q wn rfl (ex_build si_67 rfl (.cons fi_67_0 rfl rfl .nil) (fun w hh => ⟨cv_int, trivial⟩)) ?_
       refine JL_st wn rfl (st_buildSlice (vs := [.agg #[.int .i64 4, .int .i64 0]]) ([(⟨4, 0⟩ : GExpr)] : List GExpr) Try.underlying52 ti_67 zi_67 rfl rfl rfl (fun w hh => ⟨(GExpr.rdmk (Rd.mk_int _ _ _) (Rd.mk_int _ _ _)), trivial⟩)) (fun b32 => ?_)
       refine JM rfl rfl ?_
       refine JL_bnd fun z33 hz34 => ?_
       refine JL_st wn rfl (st_append 0 Try.underlying52 ti_67 zi_67 rfl bi_67 rfl rfl rfl rfl (fun w hh => hh.src_ow 1 rfl) hz34) (fun v35 => ?_)
       refine JM rfl rfl ?_
       refine JM rfl rfl ?_
       refine JA rfl rfl ?_
       refine JA rfl rfl ?_
       refine JA rfl rfl ?_
       refine JL_nt ?_
       refine J_ret ?_
       refine N_mid_ret ?_
       refine N_then_ret ?_
       exact N_ret3 rfl (rv_tmp rfl) (rv_tmp rfl) (rv_tmp rfl) (fun w hh => ⟨v35, rfl, hh.sel [0] rfl⟩)
      ·refine J_skip ?_
       exact N_meet' () ⟨rfl, rfl, rfl, rfl, trivial⟩ [] rfl rfl
    ·refine N_then ?_
     refine J_seq ?_
     refine J_sr ?_
     refine JM rfl rfl ?_
     refine JL_q wn rfl (ex_neq rfl rfl) ?_
     refine JL_nt ?_
     refine J_if rfl (fun h36 => ?_) (fun h36 => ?_)
     ·refine J_sr ?_
      refine JM rfl rfl ?_
      refine JA rfl rfl ?_
      refine JA rfl rfl ?_
      refine JA rfl rfl ?_
      refine JL_nt ?_
      refine J_ret ?_
      refine N_then_ret ?_
      refine N_ctx (fun w hh => SH.ow_nil (α := GExpr) 67 hh) ?_
      exact N_ret3 rfl (rv_tmp rfl) (rv_tmp rfl) (rv_tmp rfl) (fun w hh => ⟨(.slice none 0 0 : Value), rfl, hh.sel [0] rfl⟩)
     ·refine J_skip ?_
      refine N_then ?_
      refine J_sr ?_
      refine JM rfl rfl ?_
      refine JM rfl rfl ?_
      refine JL_q wn rfl (ex_add rfl rfl) ?_
      refine JM rfl rfl ?_
      refine JL_q wn rfl (ex_sub rfl rfl) ?_
      refine JL_bnd fun r37 hr38 => ?_
      refine JL_call wn rfl Try.call68 rfl (Ca_self (fun _ => rfl) fun w hh => ih_ _ w (fun _ hk => hk.elim) _ _ _ _ hr38) (fun x39 => ?_)
      refine JM rfl rfl ?_
      refine JL_q wn rfl (ex_extract rfl rfl) ?_
      refine JL_q wn rfl (ex_extract rfl rfl) ?_
      refine JL_q wn rfl (ex_extract rfl rfl) ?_
      refine JA rfl rfl ?_
      refine JA rfl rfl ?_
      refine JA rfl rfl ?_
      refine JL_nt ?_
      refine J_seq ?_
      refine J_cut' (S' := Unit) (G' := Unit) (fun _ _ => [(0, .string p0), (1, .int .i64 p1), (2, .int .i64 p2), (14, x39), (15, .int .i64 r37.2.1)]) (fun _ _ => [.ow 67 x39 r37.1]) ?_ (fun s40 g41 => ?_)
      ·refine J_sr ?_
       refine JM rfl rfl ?_
       refine JL_q wn rfl (ex_not rfl) ?_
       refine JM rfl rfl ?_
       refine JL_cond (fun h42 => ?_) (fun h42 => ?_)
       ·refine JL_passed rfl rfl rfl h42 ?_
        refine JL_passed rfl rfl rfl h42 ?_
        refine JL_passed rfl rfl rfl h42 ?_
        refine JL_passed rfl rfl rfl h42 ?_
        refine JL_q wn rfl (ex_pick_true rfl h42 rfl) ?_
        refine JL_nt ?_
        refine J_if_true rfl rfl ?_
        refine J_sr ?_
        refine JM rfl rfl ?_
        refine JA rfl rfl ?_
        refine JA rfl rfl ?_
        refine JA rfl rfl ?_
        refine JL_nt ?_
        refine J_ret ?_
        refine N_mid_ret ?_
        refine N_then_ret ?_
        refine N_ctx (fun w hh => SH.ow_nil (α := GExpr) 67 hh) ?_
        exact N_ret3 rfl (rv_tmp rfl) (rv_tmp rfl) (rv_tmp rfl) (fun w hh => ⟨(.slice none 0 0 : Value), rfl, hh.sel [0] rfl⟩)
       ·refine JL_q (wants_some rfl rfl rfl h42) rfl (ex_move rfl) ?_
        refine JL_q (wants_some rfl rfl rfl h42) rfl (ex_move rfl) ?_
        refine JL_q (wants_some rfl rfl rfl h42) rfl (ex_len_str Try.underlying9 rfl) ?_
        refine JL_q (wants_some rfl rfl rfl h42) rfl (ex_geq rfl rfl) ?_
        refine JL_q wn rfl (ex_pick_false rfl h42 rfl) ?_
        refine JL_nt ?_
        refine J_if rfl (fun h43 => ?_) (fun h43 => ?_)
        ·refine J_sr ?_
         refine JM rfl rfl ?_
         refine JA rfl rfl ?_
         refine JA rfl rfl ?_
         refine JA rfl rfl ?_
         refine JL_nt ?_
         refine J_ret ?_
         refine N_mid_ret ?_
         refine N_then_ret ?_
         refine N_ctx (fun w hh => SH.ow_nil (α := GExpr) 67 hh) ?_
         exact N_ret3 rfl (rv_tmp rfl) (rv_tmp rfl) (rv_tmp rfl) (fun w hh => ⟨(.slice none 0 0 : Value), rfl, hh.sel [0] rfl⟩)
        ·refine J_skip ?_
         exact N_meet' () ⟨rfl, rfl, rfl, rfl, rfl, trivial⟩ [0] rfl rfl
      ·refine N_then ?_
       refine J_sr ?_
       refine JA rfl rfl ?_
       refine JL_nt ?_
       refine J_seq ?_
       refine J_cut' (S' := Int) (G' := Unit) (fun s44 _ => [(0, .string p0), (1, .int .i64 p1), (2, .int .i64 p2), (14, x39), (15, .int .i64 r37.2.1), (17, .int .i64 s44)]) (fun s44 _ => [.ow 67 x39 r37.1]) ?_ (fun s44 g45 => ?_)
       ·refine J_sr ?_
        refine JM rfl rfl ?_
        refine JM rfl rfl ?_
        refine JL_bnd fun y46 hy47 => ?_
        refine JL_q wn rfl (ex_index_str Try.underlying9 rfl rfl hy47) ?_
        refine JL_q wn rfl (ex_eql rfl rfl) ?_
        refine JL_nt ?_
        refine J_if rfl (fun h48 => ?_) (fun h48 => ?_)
        ·refine J_region ?_
         refine JA rfl rfl ?_
         refine JL_nil ?_
         exact N_meet' () ⟨rfl, rfl, rfl, rfl, rfl, rfl, trivial⟩ [0] rfl rfl
        ·refine J_skip ?_
         exact N_meet' () ⟨rfl, rfl, rfl, rfl, rfl, rfl, trivial⟩ [0] rfl rfl
       ·refine N_then ?_
        refine J_sr ?_
        refine JM rfl rfl ?_
        refine JM rfl rfl ?_
        refine JL_q wn rfl (ex_add rfl rfl) ?_
        refine JM rfl rfl ?_
        refine JL_q wn rfl (ex_sub rfl rfl) ?_
        refine JL_bnd fun r49 hr50 => ?_
        refine JL_call wn rfl Try.call68 rfl (Ca_self (fun _ => rfl) fun w hh => ih_ _ w (fun _ hk => hk.elim) _ _ _ _ hr50) (fun x51 => ?_)
        refine JM rfl rfl ?_
        refine JL_q wn rfl (ex_extract rfl rfl) ?_
        refine JL_q wn rfl (ex_extract rfl rfl) ?_
        refine JL_q wn rfl (ex_extract rfl rfl) ?_
        refine JA rfl rfl ?_
        refine JA rfl rfl ?_
        refine JA rfl rfl ?_
        refine JL_nt ?_
        refine J_seq ?_
        refine J_sr ?_
        refine JM rfl rfl ?_
        refine JL_q wn rfl (ex_not rfl) ?_
        refine JM rfl rfl ?_
        refine JL_cond (fun h52 => ?_) (fun h52 => ?_)
        ·refine JL_passed rfl rfl rfl h52 ?_
         refine JL_passed rfl rfl rfl h52 ?_
         refine JL_passed rfl rfl rfl h52 ?_
         refine JL_passed rfl rfl rfl h52 ?_
         refine JL_q wn rfl (ex_pick_true rfl h52 rfl) ?_
         refine JL_nt ?_
         refine J_if_true rfl rfl ?_
         refine J_sr ?_
         refine JM rfl rfl ?_
         refine JA rfl rfl ?_
         refine JA rfl rfl ?_
         refine JA rfl rfl ?_
         refine JL_nt ?_
         refine J_ret ?_
         refine N_then_ret ?_
         refine N_ctx (fun w hh => SH.ow_nil (α := GExpr) 67 hh) ?_
         exact N_ret3 rfl (rv_tmp rfl) (rv_tmp rfl) (rv_tmp rfl) (fun w hh => ⟨(.slice none 0 0 : Value), rfl, hh.sel [0] rfl⟩)
        ·refine JL_q (wants_some rfl rfl rfl h52) rfl (ex_move rfl) ?_
         refine JL_q (wants_some rfl rfl rfl h52) rfl (ex_move rfl) ?_
         refine JL_q (wants_some rfl rfl rfl h52) rfl (ex_len_str Try.underlying9 rfl) ?_
         refine JL_q (wants_some rfl rfl rfl h52) rfl (ex_geq rfl rfl) ?_
         refine JL_q wn rfl (ex_pick_false rfl h52 rfl) ?_
         refine JL_nt ?_
         refine J_if rfl (fun h53 => ?_) (fun h53 => ?_)
         ·refine J_sr ?_
          refine JM rfl rfl ?_
          refine JA rfl rfl ?_
          refine JA rfl rfl ?_
          refine JA rfl rfl ?_
          refine JL_nt ?_
          refine J_ret ?_
          refine N_then_ret ?_
          refine N_ctx (fun w hh => SH.ow_nil (α := GExpr) 67 hh) ?_
          exact N_ret3 rfl (rv_tmp rfl) (rv_tmp rfl) (rv_tmp rfl) (fun w hh => ⟨(.slice none 0 0 : Value), rfl, hh.sel [0] rfl⟩)
         ·refine J_skip ?_
          refine N_then ?_
          refine J_sr ?_
          refine JM rfl rfl ?_
          refine JL_q wn rfl (ex_build si_67 rfl (.cons fi_67_0 rfl rfl .nil) (fun w hh => ⟨cv_int, trivial⟩)) ?_
          refine JL_st wn rfl (st_buildSlice (vs := [.agg #[.int .i64 s44, .int .i64 0]]) ([(⟨s44, 0⟩ : GExpr)] : List GExpr) Try.underlying52 ti_67 zi_67 rfl rfl rfl (fun w hh => ⟨(GExpr.rdmk (Rd.mk_int _ _ _) (Rd.mk_int _ _ _)), trivial⟩)) (fun b54 => ?_)
          refine JM rfl rfl ?_
          refine JL_bnd fun z55 hz56 => ?_
          refine JL_st wn rfl (st_append 0 Try.underlying52 ti_67 zi_67 rfl bi_67 rfl rfl rfl rfl (fun w hh => hh.src_ow 2 rfl) hz56) (fun v57 => ?_)
          refine JA rfl rfl ?_
          refine JL_nt ?_
          refine J_sr ?_
          refine JM rfl rfl ?_
          refine JM rfl rfl ?_
          refine JL_bnd fun z58 hz59 => ?_
          refine JL_st wn rfl (st_append 0 Try.underlying52 ti_67 zi_67 rfl bi_67 rfl rfl rfl rfl (fun w hh => hh.src_ow 1 rfl) hz59) (fun v60 => ?_)
          refine JM rfl rfl ?_
          refine JL_q wn rfl (ex_add rfl rfl) ?_
          refine JA rfl rfl ?_
          refine JA rfl rfl ?_
          refine JA rfl rfl ?_
          refine JL_nt ?_
          refine J_ret ?_
          exact N_ret3 rfl (rv_tmp rfl) (rv_tmp rfl) (rv_tmp rfl) (fun w hh => ⟨v60, rfl, hh.sel [0] rfl⟩)
theorem c_spec_l22ReadExpr (A : Nat → Prop) (w : World) (hA : ∀ k, A k → k < w.heap.size) (p0 : ByteArray) (p1 : Int) (p2 : Int) (r : (List GExpr) × Int × Bool) (hr : F_spec_l22ReadExpr p0 p1 p2 = some r) :
  Con Try.prog 68 [.string p0, .int .i64 p1, .int .i64 p2] A w (fun x_ : Value => .tuple #[x_, .int .i64 r.2.1, .bool r.2.2]) (fun x_ => [.ow 67 x_ r.1]) := by
 obtain ⟨k_, hk_⟩ := fixR_some hr
 exact c_spec_l22ReadExpr_ind k_ A w hA p0 p1 p2 r hk_
set_option maxHeartbeats 40000000 in
theorem c_spec_l22ReadAll_ind : ∀ (k_ : Nat) (A : Nat → Prop) (w : World) (hA : ∀ k, A k → k < w.heap.size) (p0 : ByteArray) (p1 : Int) (p2 : Int) (r : (List GCommand) × Int × Bool) (hr : fixN (fun (rec_ : (ByteArray × Int × Int) → Option ((List GCommand) × Int × Bool)) (a_ : ByteArray × Int × Int) => F_spec_l22ReadAll_step (fun p0 p1 p2 => rec_ (p0, p1, p2)) a_.1 a_.2.1 a_.2.2) k_ (p0, p1, p2) = some r),
  Con Try.prog 48 [.string p0, .int .i64 p1, .int .i64 p2] A w (fun x_ : Value × List Nat => .tuple #[x_.1, .int .i64 r.2.1, .bool r.2.2]) (fun x_ => [.od 54 x_.1 r.1 x_.2]) := by
 intro k_
 induction k_ with
 | zero => intro A w hA p0 p1 p2 r hr; cases hr
 | succ k_ ih_ =>
 intro A w hA p0 p1 p2 r hr
 replace hr : F_spec_l22ReadAll_step (fun p0 p1 p2 => fixN (fun (rec_ : (ByteArray × Int × Int) → Option ((List GCommand) × Int × Bool)) (a_ : ByteArray × Int × Int) => F_spec_l22ReadAll_step (fun p0 p1 p2 => rec_ (p0, p1, p2)) a_.1 a_.2.1 a_.2.2) k_ (p0, p1, p2)) p0 p1 p2 = some r := hr
 refine Con_of (v := fun (r : (List GCommand) × Int × Bool) (x_ : Value × List Nat) => .tuple #[x_.1, .int .i64 r.2.1, .bool r.2.2]) (fs := fun r x_ => [.od 54 x_.1 r.1 x_.2]) Try.func48 rfl Try.ntmps48 rfl (SH.start hA) rfl ?_ hr
 unfold F_spec_l22ReadAll_step
 refine J_sr ?_
 refine JA rfl rfl ?_
 refine JA rfl rfl ?_
 refine JA rfl rfl ?_
 refine JL_nt ?_
 refine J_sr ?_
 refine JL_st wn rfl (st_buildSlice_od (vs := []) (B := ([] : List Nat)) ([] : List GCommand) [] Try.underlying24 ti_54 zi_54 rfl rfl rfl rfl rfl (fun w hh => dwv_nil)) (fun b1 => ?_)
 refine JA rfl rfl ?_
 refine JL_nt ?_
 refine J_seq ?_
 refine J_loop' (S := Int × (List GCommand)) (G := Value × List Nat) (F_spec_l22ReadAll_L1 p0 p2 (fun p0 p1 p2 => fixN (fun (rec_ : (ByteArray × Int × Int) → Option ((List GCommand) × Int × Bool)) (a_ : ByteArray × Int × Int) => F_spec_l22ReadAll_step (fun p0 p1 p2 => rec_ (p0, p1, p2)) a_.1 a_.2.1 a_.2.2) k_ (p0, p1, p2))) (fun s2 g3 => [(0, .string p0), (1, .int .i64 s2.1), (2, .int .i64 p2), (9, g3.1)]) (fun s2 g3 => [.od 54 g3.1 s2.2 g3.2]) (p1, ([] : List GCommand)) ((.slice (some ⟨b1, 0, none⟩) 0 0), ([] : List Nat)) ⟨rfl, rfl, rfl, rfl, trivial⟩ [0] rfl rfl (fun s2 g3 => ?_) (fun s2 g3 => ?_)
 ·obtain ⟨g3_0, g3_1⟩ := g3
  unfold F_spec_l22ReadAll_L1
  refine J_seq ?_
  refine J_sr ?_
  refine JM rfl rfl ?_
  refine JM rfl rfl ?_
  refine JL_q wn rfl (ex_len_str Try.underlying9 rfl) ?_
  refine JL_q wn rfl (ex_lss rfl rfl) ?_
  refine JM rfl rfl ?_
  refine JL_cond (fun h4 => ?_) (fun h4 => ?_)
  ·refine JL_q (wants_some rfl rfl rfl h4) rfl (ex_move rfl) ?_
   refine JL_q (wants_some rfl rfl rfl h4) rfl (ex_move rfl) ?_
   refine JL_bnd fun y5 hy6 => ?_
   refine JL_q (wants_some rfl rfl rfl h4) rfl (ex_index_str Try.underlying9 rfl rfl hy6) ?_
   refine JL_q (wants_some rfl rfl rfl h4) rfl (ex_neq rfl rfl) ?_
   refine JL_q wn rfl (ex_pick_true rfl h4 rfl) ?_
   refine JL_nt ?_
   refine J_if rfl (fun h7 => ?_) (fun h7 => ?_)
   ·refine J_skip ?_
    refine N_then ?_
    refine J_block ?_
    refine J_seq ?_
    refine J_cut' (S' := Unit) (G' := Unit) (fun _ _ => [(0, .string p0), (1, .int .i64 s2.1), (2, .int .i64 p2), (9, g3_0)]) (fun _ _ => [.od 54 g3_0 s2.2 g3_1]) ?_ (fun s8 g9 => ?_)
    ·refine J_sr ?_
     refine JM rfl rfl ?_
     refine JL_q wn rfl (ex_od 0 rfl (ex_len_ow 0 Try.underlying24 rfl rfl)) ?_
     refine JL_q wn rfl (ex_gtr rfl rfl) ?_
     refine JM rfl rfl ?_
     refine JL_cond (fun h10 => ?_) (fun h10 => ?_)
     ·refine JL_passed rfl rfl rfl h10 ?_
      refine JL_passed rfl rfl rfl h10 ?_
      refine JL_q wn rfl (ex_pick_true rfl h10 rfl) ?_
      refine JL_nt ?_
      refine J_if_true rfl rfl ?_
      refine J_sr ?_
      refine JM rfl rfl ?_
      refine JA rfl rfl ?_
      refine JA rfl rfl ?_
      refine JA rfl rfl ?_
      refine JL_nt ?_
      refine J_ret ?_
      refine N_mid_ret ?_
      refine N_then_ret ?_
      refine N_block_ret ?_
      refine N_round_ret ?_
      refine N_then_ret ?_
      refine N_ctx (fun w hh => SH.od_nil (α := GCommand) 54 hh) ?_
      exact N_ret3 rfl (rv_tmp rfl) (rv_tmp rfl) (rv_tmp rfl) (fun w hh => ⟨((.slice none 0 0 : Value), ([] : List Nat)), rfl, hh.sel [0] rfl⟩)
     ·refine JL_q (wants_some rfl rfl rfl h10) rfl (ex_move rfl) ?_
      refine JL_q (wants_some rfl rfl rfl h10) rfl (ex_eql rfl rfl) ?_
      refine JL_q wn rfl (ex_pick_false rfl h10 rfl) ?_
      refine JL_nt ?_
      refine J_if rfl (fun h11 => ?_) (fun h11 => ?_)
      ·refine J_sr ?_
       refine JM rfl rfl ?_
       refine JA rfl rfl ?_
       refine JA rfl rfl ?_
       refine JA rfl rfl ?_
       refine JL_nt ?_
       refine J_ret ?_
       refine N_mid_ret ?_
       refine N_then_ret ?_
       refine N_block_ret ?_
       refine N_round_ret ?_
       refine N_then_ret ?_
       refine N_ctx (fun w hh => SH.od_nil (α := GCommand) 54 hh) ?_
       exact N_ret3 rfl (rv_tmp rfl) (rv_tmp rfl) (rv_tmp rfl) (fun w hh => ⟨((.slice none 0 0 : Value), ([] : List Nat)), rfl, hh.sel [0] rfl⟩)
      ·refine J_skip ?_
       exact N_meet' () ⟨rfl, rfl, rfl, rfl, trivial⟩ [0] rfl rfl
    ·refine N_then ?_
     refine J_seq ?_
     refine J_cut' (S' := Int) (G' := Unit) (fun s12 _ => [(0, .string p0), (1, .int .i64 s12), (2, .int .i64 p2), (9, g3_0)]) (fun s12 _ => [.od 54 g3_0 s2.2 g3_1]) ?_ (fun s12 g13 => ?_)
     ·refine J_sr ?_
      refine JM rfl rfl ?_
      refine JL_q wn rfl (ex_od 0 rfl (ex_len_ow 0 Try.underlying24 rfl rfl)) ?_
      refine JL_q wn rfl (ex_gtr rfl rfl) ?_
      refine JL_nt ?_
      refine J_if rfl (fun h14 => ?_) (fun h14 => ?_)
      ·refine J_region ?_
       refine JM rfl rfl ?_
       refine JL_q wn rfl (ex_add rfl rfl) ?_
       refine JA rfl rfl ?_
       refine JL_nil ?_
       exact N_meet' () ⟨rfl, rfl, rfl, rfl, trivial⟩ [0] rfl rfl
      ·refine J_skip ?_
       exact N_meet' () ⟨rfl, rfl, rfl, rfl, trivial⟩ [0] rfl rfl
     ·refine N_then ?_
      refine J_seq ?_
      refine J_sr ?_
      refine JM rfl rfl ?_
      refine JM rfl rfl ?_
      refine JL_q wn rfl (ex_len_str Try.underlying9 rfl) ?_
      refine JL_q wn rfl (ex_geq rfl rfl) ?_
      refine JL_nt ?_
      refine J_if rfl (fun h15 => ?_) (fun h15 => ?_)
      ·refine J_sr ?_
       refine JM rfl rfl ?_
       refine JA rfl rfl ?_
       refine JA rfl rfl ?_
       refine JA rfl rfl ?_
       refine JL_nt ?_
       refine J_ret ?_
       refine N_then_ret ?_
       refine N_block_ret ?_
       refine N_round_ret ?_
       refine N_then_ret ?_
       refine N_ctx (fun w hh => SH.od_nil (α := GCommand) 54 hh) ?_
       exact N_ret3 rfl (rv_tmp rfl) (rv_tmp rfl) (rv_tmp rfl) (fun w hh => ⟨((.slice none 0 0 : Value), ([] : List Nat)), rfl, hh.sel [0] rfl⟩)
      ·refine J_skip ?_
       refine N_then ?_
       refine J_seq ?_
       refine J_sr ?_
       refine JM rfl rfl ?_
       refine JM rfl rfl ?_
       refine JL_bnd fun y16 hy17 => ?_
       refine JL_q wn rfl (ex_index_str Try.underlying9 rfl rfl hy17) ?_
       refine JL_q wn rfl (ex_eql rfl rfl) ?_
       refine JL_nt ?_
       refine J_if rfl (fun h18 => ?_) (fun h18 => ?_)
       ·refine J_sr ?_
        refine JM rfl rfl ?_
        refine JM rfl rfl ?_
        refine JL_q wn rfl (ex_add rfl rfl) ?_
        refine JL_bnd fun r19 hr20 => ?_
        refine JL_call wn rfl Try.call68 rfl (Ca_self (fun _ => rfl) fun w hh => c_spec_l22ReadExpr _ w (fun _ hk => hk.elim) _ _ _ _ hr20) (fun x21 => ?_)
        refine JM rfl rfl ?_
        refine JL_q wn rfl (ex_extract rfl rfl) ?_
        refine JL_q wn rfl (ex_extract rfl rfl) ?_
        refine JL_q wn rfl (ex_extract rfl rfl) ?_
        refine JA rfl rfl ?_
        refine JA rfl rfl ?_
        refine JA rfl rfl ?_
        refine JL_nt ?_
        refine J_seq ?_
        refine J_sr ?_
        refine JM rfl rfl ?_
        refine JL_q wn rfl (ex_not rfl) ?_
        refine JL_nt ?_
        refine J_if rfl (fun h22 => ?_) (fun h22 => ?_)
        ·refine J_sr ?_
         refine JM rfl rfl ?_
         refine JA rfl rfl ?_
         refine JA rfl rfl ?_
         refine JA rfl rfl ?_
         refine JL_nt ?_
         refine J_ret ?_
         refine N_then_ret ?_
         refine N_then_ret ?_
         refine N_block_ret ?_
         refine N_round_ret ?_
         refine N_then_ret ?_
         refine N_ctx (fun w hh => SH.od_nil (α := GCommand) 54 hh) ?_
         exact N_ret3 rfl (rv_tmp rfl) (rv_tmp rfl) (rv_tmp rfl) (fun w hh => ⟨((.slice none 0 0 : Value), ([] : List Nat)), rfl, hh.sel [0] rfl⟩)
        ·refine J_skip ?_
         refine N_then ?_
         refine J_sr ?_
         refine JM rfl rfl ?_
         refine JM rfl rfl ?_
         refine JL_q wn rfl (ex_add rfl rfl) ?_
         refine JM rfl rfl ?_
         refine JL_q wn rfl (ex_sub rfl rfl) ?_
         refine JL_bnd fun r23 hr24 => ?_
         refine JL_call wn rfl Try.call48 rfl (Ca_self (fun _ => rfl) fun w hh => ih_ _ w (fun _ hk => hk.elim) _ _ _ _ hr24) (fun x25 => ?_)
         obtain ⟨x25_0, x25_1⟩ := x25
         refine JM rfl rfl ?_
         refine JL_q wn rfl (ex_extract rfl rfl) ?_
         refine JL_q wn rfl (ex_extract rfl rfl) ?_
         refine JL_q wn rfl (ex_extract rfl rfl) ?_
         refine JA rfl rfl ?_
         refine JA rfl rfl ?_
         refine JA rfl rfl ?_
         refine JL_nt ?_
         refine J_seq ?_
         refine J_sr ?_
         refine JM rfl rfl ?_
         refine JL_q wn rfl (ex_not rfl) ?_
         refine JL_nt ?_
         refine J_if rfl (fun h26 => ?_) (fun h26 => ?_)
         ·refine J_sr ?_
          refine JM rfl rfl ?_
          refine JA rfl rfl ?_
          refine JA rfl rfl ?_
          refine JA rfl rfl ?_
          refine JL_nt ?_
          refine J_ret ?_
          refine N_then_ret ?_
          refine N_then_ret ?_
          refine N_block_ret ?_
          refine N_round_ret ?_
          refine N_then_ret ?_
          refine N_ctx (fun w hh => SH.od_nil (α := GCommand) 54 hh) ?_
          exact N_ret3 rfl (rv_tmp rfl) (rv_tmp rfl) (rv_tmp rfl) (fun w hh => ⟨((.slice none 0 0 : Value), ([] : List Nat)), rfl, hh.sel [0] rfl⟩)
         ·refine J_skip ?_
          refine N_then ?_
          refine J_sr ?_
          refine JM rfl rfl ?_
          refine JM rfl rfl ?_
          refine JL_q wn rfl (ex_od 0 rfl (ex_len_ow 0 Try.underlying24 rfl rfl)) ?_
          refine JM rfl rfl ?_
          refine JL_q wn rfl (ex_build si_54 rfl (.cons fi_54_0 rfl rfl (.cons fi_54_2 rfl rfl (.cons fi_54_3 rfl rfl .nil))) (fun w hh => ⟨cv_int, cv_int, (hh.cv_ow 1 rfl), trivial⟩)) ?_
          refine JL_ctx (fun w hh => hh.tokf 1 rfl rfl) ?_
          refine JL_st wn rfl (st_buildSlice_od (vs := [.agg #[.int .i64 1, .int .i64 0, .int .i64 (r23.1.length : Int), x21]]) (B := (((x21 : Value).ownBlock.toList ++ []) ++ [])) ([(⟨1, 0, (r23.1.length : Int), r19.1⟩ : GCommand)] : List GCommand) [0] Try.underlying24 ti_54 zi_54 rfl rfl rfl rfl rfl (fun w hh => (dwv_cons (GCommand.dw (hh.dw 0 rfl)) dwv_nil))) (fun b27 => ?_)
          refine JL_bnd fun z28 hz29 => ?_
          refine JL_st wn rfl (st_append_od 4 0 Try.underlying24 ti_54 zi_54 rfl bi_54 rfl rfl rfl rfl rfl rfl hz29) (fun v30 => ?_)
          refine JA rfl rfl ?_
          refine JL_nt ?_
          refine J_sr ?_
          refine JM rfl rfl ?_
          refine JM rfl rfl ?_
          refine JL_bnd fun z31 hz32 => ?_
          refine JL_st wn rfl (st_append_od 4 2 Try.underlying24 ti_54 zi_54 rfl bi_54 rfl rfl rfl rfl rfl rfl hz32) (fun v33 => ?_)
          refine JA rfl rfl ?_
          refine JL_nt ?_
          refine J_sr ?_
          refine JM rfl rfl ?_
          refine JL_q wn rfl (ex_add rfl rfl) ?_
          refine JA rfl rfl ?_
          refine JL_nt ?_
          refine J_exit ?_
          refine N_then_exit ?_
          refine N_block_exit ?_
          exact N_next' (v33, ((g3_1 ++ (((x21 : Value).ownBlock.toList ++ []) ++ [])) ++ x25_1)) ⟨rfl, rfl, rfl, rfl, trivial⟩ [4] rfl rfl
       ·refine J_skip ?_
        refine N_then ?_
        refine J_sr ?_
        refine JM rfl rfl ?_
        refine JM rfl rfl ?_
        refine JL_q wn rfl (ex_add rfl rfl) ?_
        refine JL_bnd fun r34 hr35 => ?_
        refine JL_call wn rfl Try.call68 rfl (Ca_self (fun _ => rfl) fun w hh => c_spec_l22ReadExpr _ w (fun _ hk => hk.elim) _ _ _ _ hr35) (fun x36 => ?_)
        refine JM rfl rfl ?_
        refine JL_q wn rfl (ex_extract rfl rfl) ?_
        refine JL_q wn rfl (ex_extract rfl rfl) ?_
        refine JL_q wn rfl (ex_extract rfl rfl) ?_
        refine JA rfl rfl ?_
        refine JA rfl rfl ?_
        refine JA rfl rfl ?_
        refine JL_nt ?_
        refine J_seq ?_
        refine J_sr ?_
        refine JM rfl rfl ?_
        refine JL_q wn rfl (ex_not rfl) ?_
        refine JL_nt ?_
        refine J_if rfl (fun h37 => ?_) (fun h37 => ?_)
        ·refine J_sr ?_
         refine JM rfl rfl ?_
         refine JA rfl rfl ?_
         refine JA rfl rfl ?_
         refine JA rfl rfl ?_
         refine JL_nt ?_
         refine J_ret ?_
         refine N_then_ret ?_
         refine N_block_ret ?_
         refine N_round_ret ?_
         refine N_then_ret ?_
         refine N_ctx (fun w hh => SH.od_nil (α := GCommand) 54 hh) ?_
         exact N_ret3 rfl (rv_tmp rfl) (rv_tmp rfl) (rv_tmp rfl) (fun w hh => ⟨((.slice none 0 0 : Value), ([] : List Nat)), rfl, hh.sel [0] rfl⟩)
        ·refine J_skip ?_
         refine N_then ?_
         refine J_sr ?_
         refine JM rfl rfl ?_
         refine JM rfl rfl ?_
         refine JM rfl rfl ?_
         refine JL_bnd fun y38 hy39 => ?_
         refine JL_q wn rfl (ex_index_str Try.underlying9 rfl rfl hy39) ?_
         refine JL_q wn rfl (ex_conv_i64 Try.underlying5 Try.underlying2 rfl) ?_
         refine JL_q wn rfl (ex_sub rfl rfl) ?_
         refine JM rfl rfl ?_
         refine JL_q wn rfl (ex_build si_54 rfl (.cons fi_54_1 rfl rfl (.cons fi_54_3 rfl rfl .nil)) (fun w hh => ⟨cv_int, (hh.cv_ow 0 rfl), trivial⟩)) ?_
         refine JL_ctx (fun w hh => hh.tokf 0 rfl rfl) ?_
         refine JL_st wn rfl (st_buildSlice_od (vs := [.agg #[.int .i64 0, .int .i64 (w64 ((w64 y38) - 48)), .int .i64 0, x36]]) (B := (((x36 : Value).ownBlock.toList ++ []) ++ [])) ([(⟨0, (w64 ((w64 y38) - 48)), 0, r34.1⟩ : GCommand)] : List GCommand) [0] Try.underlying24 ti_54 zi_54 rfl rfl rfl rfl rfl (fun w hh => (dwv_cons (GCommand.dw (hh.dw 0 rfl)) dwv_nil))) (fun b40 => ?_)
         refine JL_bnd fun z41 hz42 => ?_
         refine JL_st wn rfl (st_append_od 3 0 Try.underlying24 ti_54 zi_54 rfl bi_54 rfl rfl rfl rfl rfl rfl hz42) (fun v43 => ?_)
         refine JA rfl rfl ?_
         refine JL_nt ?_
         refine J_region ?_
         refine JM rfl rfl ?_
         refine JA rfl rfl ?_
         refine JL_nil ?_
         refine N_block ?_
         exact N_next' (v43, (g3_1 ++ (((x36 : Value).ownBlock.toList ++ []) ++ []))) ⟨rfl, rfl, rfl, rfl, trivial⟩ [3] rfl rfl
   ·refine J_exit ?_
    refine N_then_exit ?_
    exact N_break' (g3_0, g3_1) ⟨rfl, rfl, rfl, rfl, trivial⟩ [0] rfl rfl
  ·refine JL_passed rfl rfl rfl h4 ?_
   refine JL_passed rfl rfl rfl h4 ?_
   refine JL_passed rfl rfl rfl h4 ?_
   refine JL_passed rfl rfl rfl h4 ?_
   refine JL_q wn rfl (ex_pick_false rfl h4 rfl) ?_
   refine JL_nt ?_
   refine J_if_false rfl rfl ?_
   refine J_exit ?_
   refine N_then_exit ?_
   exact N_break' (g3_0, g3_1) ⟨rfl, rfl, rfl, rfl, trivial⟩ [0] rfl rfl
 ·obtain ⟨g3_0, g3_1⟩ := g3
  refine N_then ?_
  refine J_sr ?_
  refine JM rfl rfl ?_
  refine JM rfl rfl ?_
  refine JA rfl rfl ?_
  refine JA rfl rfl ?_
  refine JA rfl rfl ?_
  refine JL_nt ?_
  refine J_ret ?_
  exact N_ret3 rfl (rv_tmp rfl) (rv_tmp rfl) (rv_tmp rfl) (fun w hh => ⟨(g3_0, g3_1), rfl, hh.sel [0] rfl⟩)
theorem c_spec_l22ReadAll (A : Nat → Prop) (w : World) (hA : ∀ k, A k → k < w.heap.size) (p0 : ByteArray) (p1 : Int) (p2 : Int) (r : (List GCommand) × Int × Bool) (hr : F_spec_l22ReadAll p0 p1 p2 = some r) :
  Con Try.prog 48 [.string p0, .int .i64 p1, .int .i64 p2] A w (fun x_ : Value × List Nat => .tuple #[x_.1, .int .i64 r.2.1, .bool r.2.2]) (fun x_ => [.od 54 x_.1 r.1 x_.2]) := by
 obtain ⟨k_, hk_⟩ := fixR_some hr
 exact c_spec_l22ReadAll_ind k_ A w hA p0 p1 p2 r hk_
set_option maxHeartbeats 40000000 in
theorem c_spec_l00In (A : Nat → Prop) (w : World) (hA : ∀ k, A k → k < w.heap.size) (p0 : Int) (p1 : Int) (p2 : Int) (r : Bool) (hr : F_spec_l00In p0 p1 p2 = some r) :
  Con Try.prog 70 [.int .i64 p0, .int .i64 p1, .int .i64 p2] A w (fun x_ : Unit => .bool r) (fun x_ => []) := by
 refine Con_of (v := fun (r : Bool) (x_ : Unit) => .bool r) (fs := fun r x_ => []) Try.func70 rfl Try.ntmps70 rfl (SH.start hA) rfl ?_ hr
 unfold F_spec_l00In
 refine J_sr ?_
 refine JA rfl rfl ?_
 refine JL_nt ?_
 refine J_sr ?_
 refine JM rfl rfl ?_
 refine JM rfl rfl ?_
 refine JL_q wn rfl (ex_geq rfl rfl) ?_
 refine JM rfl rfl ?_
 refine JL_cond (fun h1 => ?_) (fun h1 => ?_)
 ·refine JL_q (wants_some rfl rfl rfl h1) rfl (ex_move rfl) ?_
  refine JL_q (wants_some rfl rfl rfl h1) rfl (ex_move rfl) ?_
  refine JL_q (wants_some rfl rfl rfl h1) rfl (ex_leq rfl rfl) ?_
  refine JL_q wn rfl (ex_pick_true rfl h1 rfl) ?_
  refine JA rfl rfl ?_
  refine JL_nt ?_
  refine J_ret ?_
  exact N_ret1 rfl (rv_tmp rfl) (fun w hh => ⟨(), rfl, hh.sel [] rfl⟩)
 ·refine JL_passed rfl rfl rfl h1 ?_
  refine JL_passed rfl rfl rfl h1 ?_
  refine JL_passed rfl rfl rfl h1 ?_
  refine JL_q wn rfl (ex_pick_false rfl h1 rfl) ?_
  refine JA rfl rfl ?_
  refine JL_nt ?_
  refine J_ret ?_
  exact N_ret1 rfl (rv_tmp rfl) (fun w hh => ⟨(), rfl, hh.sel [] rfl⟩)
set_option maxHeartbeats 40000000 in
theorem c_spec_l22Many (A : Nat → Prop) (w : World) (hA : ∀ k, A k → k < w.heap.size) (p0 : Int) (r : Int) (hr : F_spec_l22Many p0 = some r) :
  Con Try.prog 52 [.int .i64 p0] A w (fun x_ : Unit => .int .i64 r) (fun x_ => []) := by
 refine Con_of (v := fun (r : Int) (x_ : Unit) => .int .i64 r) (fs := fun r x_ => []) Try.func52 rfl Try.ntmps52 rfl (SH.start hA) rfl ?_ hr
 unfold F_spec_l22Many
 refine J_sr ?_
 refine JA rfl rfl ?_
 refine JL_nt ?_
 refine J_seq ?_
 refine J_sr ?_
 refine JM rfl rfl ?_
 refine JL_nt ?_
 refine J_block ?_
 refine J_seq ?_
 refine J_sr ?_
 refine JL_q wn rfl (ex_eql rfl rfl) ?_
 refine JA rfl rfl ?_
 refine JL_nt ?_
 refine J_if rfl (fun h1 => ?_) (fun h1 => ?_)
 ·refine J_skip ?_
  refine N_then ?_
  refine J_if_true rfl h1 ?_
  refine J_sr ?_
  refine JA rfl rfl ?_
  refine JL_nt ?_
  refine J_ret ?_
  refine N_block_ret ?_
  refine N_then_ret ?_
  exact N_ret1 rfl (rv_tmp rfl) (fun w hh => ⟨(), rfl, hh.sel [] rfl⟩)
 ·refine J_region ?_
  refine JL_q wn rfl (ex_eql rfl rfl) ?_
  refine JA rfl rfl ?_
  refine JL_nt ?_
  refine J_if rfl (fun h2 => ?_) (fun h2 => ?_)
  ·refine J_sr ?_
   refine JA rfl rfl ?_
   refine JL_nt ?_
   refine J_ret ?_
   refine N_block_ret ?_
   refine N_then_ret ?_
   exact N_ret1 rfl (rv_tmp rfl) (fun w hh => ⟨(), rfl, hh.sel [] rfl⟩)
  ·refine J_seq ?_
   refine J_sr ?_
   refine JL_q wn rfl (ex_eql rfl rfl) ?_
   refine JA rfl rfl ?_
   refine JL_nt ?_
   refine J_if rfl (fun h3 => ?_) (fun h3 => ?_)
   ·refine J_skip ?_
    refine N_then ?_
    refine J_if_true rfl h3 ?_
    refine J_sr ?_
    refine JA rfl rfl ?_
    refine JL_nt ?_
    refine J_ret ?_
    refine N_block_ret ?_
    refine N_then_ret ?_
    exact N_ret1 rfl (rv_tmp rfl) (fun w hh => ⟨(), rfl, hh.sel [] rfl⟩)
   ·refine J_region ?_
    refine JL_q wn rfl (ex_eql rfl rfl) ?_
    refine JA rfl rfl ?_
    refine JL_nt ?_
    refine J_if rfl (fun h4 => ?_) (fun h4 => ?_)
    ·refine J_sr ?_
     refine JA rfl rfl ?_
     refine JL_nt ?_
     refine J_ret ?_
     refine N_block_ret ?_
     refine N_then_ret ?_
     exact N_ret1 rfl (rv_tmp rfl) (fun w hh => ⟨(), rfl, hh.sel [] rfl⟩)
    ·refine J_skip ?_
     refine N_block ?_
     refine N_then ?_
     refine J_sr ?_
     refine JA rfl rfl ?_
     refine JL_nt ?_
     refine J_ret ?_
     exact N_ret1 rfl (rv_tmp rfl) (fun w hh => ⟨(), rfl, hh.sel [] rfl⟩)
set_option maxHeartbeats 40000000 in
theorem c_spec_l22Expr (A : Nat → Prop) (w : World) (hA : ∀ k, A k → k < w.heap.size) (v0_ : Value) (p0 : (List GExpr)) (hp0 : Rd A w v0_ p0) (r : Bool) (hr : F_spec_l22Expr p0 = some r) :
  Con Try.prog 69 [v0_] A w (fun x_ : Unit => .bool r) (fun x_ => []) := by
 refine Con_of (v := fun (r : Bool) (x_ : Unit) => .bool r) (fs := fun r x_ => []) Try.func69 rfl Try.ntmps69 rfl ((SH.start hA).start_rd rfl hp0) rfl ?_ hr
 unfold F_spec_l22Expr
 refine J_sr ?_
 refine JA rfl rfl ?_
 refine JL_nt ?_
 refine J_seq ?_
 refine J_cut' (S' := Unit) (G' := Unit) (fun _ _ => [(0, v0_)]) (fun _ _ => [.rd v0_ p0]) ?_ (fun s1 g2 => ?_)
 ·refine J_sr ?_
  refine JM rfl rfl ?_
  refine JL_q wn rfl (ex_len_rd 0 Try.underlying52 rfl rfl) ?_
  refine JL_q wn rfl (ex_lss rfl rfl) ?_
  refine JM rfl rfl ?_
  refine JL_cond (fun h3 => ?_) (fun h3 => ?_)
  ·refine JL_passed rfl rfl rfl h3 ?_
   refine JL_passed rfl rfl rfl h3 ?_
   refine JL_passed rfl rfl rfl h3 ?_
   refine JL_q wn rfl (ex_pick_true rfl h3 rfl) ?_
   refine JL_nt ?_
   refine J_if_true rfl rfl ?_
   refine J_sr ?_
   refine JA rfl rfl ?_
   refine JL_nt ?_
   refine J_ret ?_
   refine N_mid_ret ?_
   refine N_then_ret ?_
   exact N_ret1 rfl (rv_tmp rfl) (fun w hh => ⟨(), rfl, hh.sel [] rfl⟩)
  ·refine JL_q (wants_some rfl rfl rfl h3) rfl (ex_move rfl) ?_
   refine JL_q (wants_some rfl rfl rfl h3) rfl (ex_len_rd 0 Try.underlying52 rfl rfl) ?_
   refine JL_q (wants_some rfl rfl rfl h3) rfl (ex_gtr rfl rfl) ?_
   refine JL_q wn rfl (ex_pick_false rfl h3 rfl) ?_
   refine JL_nt ?_
   refine J_if rfl (fun h4 => ?_) (fun h4 => ?_)
   ·refine J_sr ?_
    refine JA rfl rfl ?_
    refine JL_nt ?_
    refine J_ret ?_
    refine N_mid_ret ?_
    refine N_then_ret ?_
    exact N_ret1 rfl (rv_tmp rfl) (fun w hh => ⟨(), rfl, hh.sel [] rfl⟩)
   ·refine J_skip ?_
    exact N_meet' () ⟨rfl, trivial⟩ [0] rfl rfl
 ·refine N_then ?_
  refine J_sr ?_
  refine JA rfl rfl ?_
  refine JL_nt ?_
  refine J_seq ?_
  refine J_sr ?_
  refine JA rfl rfl ?_
  refine JL_nt ?_
  refine J_loop' (S := Int × Int) (G := Unit) (F_spec_l22Expr_L1 p0) (fun s5 _ => [(0, v0_), (3, .int .i64 s5.1), (4, .int .i64 s5.2)]) (fun s5 _ => [.rd v0_ p0]) (1, 0) () ⟨rfl, rfl, rfl, trivial⟩ [0] rfl rfl (fun s5 g6 => ?_) (fun s5 g6 => ?_)
  ·unfold F_spec_l22Expr_L1
   refine J_seq ?_
   refine J_sr ?_
   refine JM rfl rfl ?_
   refine JM rfl rfl ?_
   refine JL_q wn rfl (ex_len_rd 0 Try.underlying52 rfl rfl) ?_
   refine JL_q wn rfl (ex_lss rfl rfl) ?_
   refine JL_nt ?_
   refine J_if rfl (fun h7 => ?_) (fun h7 => ?_)
   ·refine J_skip ?_
    refine N_then ?_
    refine J_seq ?_
    refine J_block ?_
    refine J_seq ?_
    refine J_cut' (S' := Unit) (G' := Unit) (fun _ _ => [(0, v0_), (3, .int .i64 s5.1), (4, .int .i64 s5.2)]) (fun _ _ => [.rd v0_ p0]) ?_ (fun s8 g9 => ?_)
    ·refine J_sr ?_
     refine JM rfl rfl ?_
     refine JL_q wn rfl (ex_eql rfl rfl) ?_
     refine JM rfl rfl ?_
     refine JL_cond (fun h10 => ?_) (fun h10 => ?_)
     ·refine JL_passed rfl rfl rfl h10 ?_
      refine JL_passed rfl rfl rfl h10 ?_
      refine JL_passed rfl rfl rfl h10 ?_
      refine JL_passed rfl rfl rfl h10 ?_
      refine JL_passed rfl rfl rfl h10 ?_
      refine JL_passed rfl rfl rfl h10 ?_
      refine JL_passed rfl rfl rfl h10 ?_
      refine JL_q wn rfl (ex_pick_true rfl h10 rfl) ?_
      refine JL_nt ?_
      refine J_if_true rfl rfl ?_
      refine J_sr ?_
      refine JA rfl rfl ?_
      refine JL_nt ?_
      refine J_ret ?_
      refine N_mid_ret ?_
      refine N_then_ret ?_
      refine N_block_ret ?_
      refine N_then_ret ?_
      refine N_round_ret ?_
      refine N_then_ret ?_
      exact N_ret1 rfl (rv_tmp rfl) (fun w hh => ⟨(), rfl, hh.sel [] rfl⟩)
     ·refine JL_q (wants_some rfl rfl rfl h10) rfl (ex_move rfl) ?_
      refine JL_q (wants_some rfl rfl rfl h10) rfl (ex_move rfl) ?_
      refine JL_bnd fun y11 hy12 => ?_
      refine JL_st (wants_some rfl rfl rfl h10) rfl (st_index 0 Try.underlying52 ti_67 rfl rfl rfl hy12) (fun q13 => ?_)
      refine JL_st (wants_some rfl rfl rfl h10) rfl (st_field_pt 0 (GExpr.at_Kind _) fi_67_0 rfl rfl rfl) (fun q14 => ?_)
      refine JL_st (wants_some rfl rfl rfl h10) rfl (st_load_pt_o 0 (opens_int _) ti_2 rfl rfl) (fun _ => ?_)
      refine JL_bnd fun r16 hr17 => ?_
      refine JL_call (wants_some rfl rfl rfl h10) rfl Try.call70 rfl (Ca_of0 fun w hh => c_spec_l00In _ w (fun _ hk => hk.elim) _ _ _ _ hr17) (fun _ => ?_)
      refine JL_q (wants_some rfl rfl rfl h10) rfl (ex_not rfl) ?_
      refine JL_q wn rfl (ex_pick_false rfl h10 rfl) ?_
      refine JL_nt ?_
      refine J_if rfl (fun h18 => ?_) (fun h18 => ?_)
      ·refine J_sr ?_
       refine JA rfl rfl ?_
       refine JL_nt ?_
       refine J_ret ?_
       refine N_mid_ret ?_
       refine N_then_ret ?_
       refine N_block_ret ?_
       refine N_then_ret ?_
       refine N_round_ret ?_
       refine N_then_ret ?_
       exact N_ret1 rfl (rv_tmp rfl) (fun w hh => ⟨(), rfl, hh.sel [] rfl⟩)
      ·refine J_skip ?_
       exact N_meet' () ⟨rfl, rfl, rfl, trivial⟩ [2] rfl rfl
    ·refine N_then ?_
     refine J_seq ?_
     refine J_sr ?_
     refine JM rfl rfl ?_
     refine JM rfl rfl ?_
     refine JL_bnd fun y19 hy20 => ?_
     refine JL_st wn rfl (st_index 0 Try.underlying52 ti_67 rfl rfl rfl hy20) (fun q21 => ?_)
     refine JL_st wn rfl (st_field_pt 0 (GExpr.at_Kind _) fi_67_0 rfl rfl rfl) (fun q22 => ?_)
     refine JL_st wn rfl (st_load_pt_o 0 (opens_int _) ti_2 rfl rfl) (fun _ => ?_)
     refine JL_q wn rfl (ex_eql rfl rfl) ?_
     refine JM rfl rfl ?_
     refine JL_cond (fun h24 => ?_) (fun h24 => ?_)
     ·refine JL_q (wants_some rfl rfl rfl h24) rfl (ex_move rfl) ?_
      refine JL_q (wants_some rfl rfl rfl h24) rfl (ex_move rfl) ?_
      refine JL_bnd fun y25 hy26 => ?_
      refine JL_st (wants_some rfl rfl rfl h24) rfl (st_index 2 Try.underlying52 ti_67 rfl rfl rfl hy26) (fun q27 => ?_)
      refine JL_st (wants_some rfl rfl rfl h24) rfl (st_field_pt 0 (GExpr.at_Variable _) fi_67_1 rfl rfl rfl) (fun q28 => ?_)
      refine JL_st (wants_some rfl rfl rfl h24) rfl (st_load_pt_o 0 (opens_int _) ti_2 rfl rfl) (fun _ => ?_)
      refine JL_bnd fun r30 hr31 => ?_
      refine JL_call (wants_some rfl rfl rfl h24) rfl Try.call70 rfl (Ca_of0 fun w hh => c_spec_l00In _ w (fun _ hk => hk.elim) _ _ _ _ hr31) (fun _ => ?_)
      refine JL_q (wants_some rfl rfl rfl h24) rfl (ex_not rfl) ?_
      refine JL_q wn rfl (ex_pick_true rfl h24 rfl) ?_
      refine JM rfl rfl ?_
      refine JL_cond (fun h32 => ?_) (fun h32 => ?_)
      ·refine JL_passed rfl rfl rfl h32 ?_
       refine JL_passed rfl rfl rfl h32 ?_
       refine JL_passed rfl rfl rfl h32 ?_
       refine JL_passed rfl rfl rfl h32 ?_
       refine JL_passed rfl rfl rfl h32 ?_
       refine JL_passed rfl rfl rfl h32 ?_
       refine JL_passed rfl rfl rfl h32 ?_
       refine JL_passed_undef rfl rfl rfl ?_
       refine JL_passed_undef rfl rfl rfl ?_
       refine JL_passed_undef rfl rfl rfl ?_
       refine JL_passed_undef rfl rfl rfl ?_
       refine JL_passed_undef rfl rfl rfl ?_
       refine JL_passed_undef rfl rfl rfl ?_
       refine JL_passed rfl rfl rfl h32 ?_
       refine JL_q wn rfl (ex_pick_true rfl h32 rfl) ?_
       refine JL_nt ?_
       refine J_if_true rfl rfl ?_
       refine J_sr ?_
       refine JA rfl rfl ?_
       refine JL_nt ?_
       refine J_ret ?_
       refine N_then_ret ?_
       refine N_block_ret ?_
       refine N_then_ret ?_
       refine N_round_ret ?_
       refine N_then_ret ?_
       exact N_ret1 rfl (rv_tmp rfl) (fun w hh => ⟨(), rfl, hh.sel [] rfl⟩)
      ·refine JL_q (wants_some rfl rfl rfl h32) rfl (ex_move rfl) ?_
       refine JL_q (wants_some rfl rfl rfl h32) rfl (ex_move rfl) ?_
       refine JL_bnd fun y33 hy34 => ?_
       refine JL_st (wants_some rfl rfl rfl h32) rfl (st_index 4 Try.underlying52 ti_67 rfl rfl rfl hy34) (fun q35 => ?_)
       refine JL_st (wants_some rfl rfl rfl h32) rfl (st_field_pt 0 (GExpr.at_Kind _) fi_67_0 rfl rfl rfl) (fun q36 => ?_)
       refine JL_st (wants_some rfl rfl rfl h32) rfl (st_load_pt_o 0 (opens_int _) ti_2 rfl rfl) (fun _ => ?_)
       refine JL_q (wants_some rfl rfl rfl h32) rfl (ex_neq rfl rfl) ?_
       refine JL_q (wants_some rfl rfl rfl h32) rfl (ex_move rfl) ?_
       refine JL_cond (fun h38 => ?_) (fun h38 => ?_)
       ·refine JL_q (wants_some rfl rfl rfl h38) rfl (ex_move rfl) ?_
        refine JL_q (wants_some rfl rfl rfl h38) rfl (ex_move rfl) ?_
        refine JL_bnd fun y39 hy40 => ?_
        refine JL_st (wants_some rfl rfl rfl h38) rfl (st_index 6 Try.underlying52 ti_67 rfl rfl rfl hy40) (fun q41 => ?_)
        refine JL_st (wants_some rfl rfl rfl h38) rfl (st_field_pt 0 (GExpr.at_Variable _) fi_67_1 rfl rfl rfl) (fun q42 => ?_)
        refine JL_st (wants_some rfl rfl rfl h38) rfl (st_load_pt_o 0 (opens_int _) ti_2 rfl rfl) (fun _ => ?_)
        refine JL_q (wants_some rfl rfl rfl h38) rfl (ex_neq rfl rfl) ?_
        refine JL_q (wants_some rfl rfl rfl h32) rfl (ex_pick_true rfl h38 rfl) ?_
        refine JL_q wn rfl (ex_pick_false rfl h32 rfl) ?_
        refine JL_nt ?_
        refine J_if rfl (fun h44 => ?_) (fun h44 => ?_)
        ·refine J_sr ?_
         refine JA rfl rfl ?_
         refine JL_nt ?_
         refine J_ret ?_
         refine N_then_ret ?_
         refine N_block_ret ?_
         refine N_then_ret ?_
         refine N_round_ret ?_
         refine N_then_ret ?_
         exact N_ret1 rfl (rv_tmp rfl) (fun w hh => ⟨(), rfl, hh.sel [] rfl⟩)
        ·refine J_skip ?_
         refine N_then ?_
         refine J_region ?_
         refine JM rfl rfl ?_
         refine JM rfl rfl ?_
         refine JM rfl rfl ?_
         refine JL_bnd fun y45 hy46 => ?_
         refine JL_st wn rfl (st_index 8 Try.underlying52 ti_67 rfl rfl rfl hy46) (fun q47 => ?_)
         refine JL_st wn rfl (st_field_pt 0 (GExpr.at_Kind _) fi_67_0 rfl rfl rfl) (fun q48 => ?_)
         refine JL_st wn rfl (st_load_pt_o 0 (opens_int _) ti_2 rfl rfl) (fun _ => ?_)
         refine JL_bnd fun r50 hr51 => ?_
         refine JL_call wn rfl Try.call52 rfl (Ca_of0 fun w hh => c_spec_l22Many _ w (fun _ hk => hk.elim) _ _ hr51) (fun _ => ?_)
         refine JL_q wn rfl (ex_sub rfl rfl) ?_
         refine JL_q wn rfl (ex_add rfl rfl) ?_
         refine JA rfl rfl ?_
         refine JL_nil ?_
         refine N_block ?_
         refine N_then ?_
         refine J_region ?_
         refine JM rfl rfl ?_
         refine JL_q wn rfl (ex_add rfl rfl) ?_
         refine JA rfl rfl ?_
         refine JL_nil ?_
         exact N_next' () ⟨rfl, rfl, rfl, trivial⟩ [10] rfl rfl
       ·refine JL_passed rfl rfl rfl h38 ?_
        refine JL_passed rfl rfl rfl h38 ?_
        refine JL_passed rfl rfl rfl h38 ?_
        refine JL_passed rfl rfl rfl h38 ?_
        refine JL_passed rfl rfl rfl h38 ?_
        refine JL_passed rfl rfl rfl h38 ?_
        refine JL_q (wants_some rfl rfl rfl h32) rfl (ex_pick_false rfl h38 rfl) ?_
        refine JL_q wn rfl (ex_pick_false rfl h32 rfl) ?_
        refine JL_nt ?_
        refine J_if_false rfl rfl ?_
        refine J_skip ?_
        refine N_then ?_
        refine J_region ?_
        refine JM rfl rfl ?_
        refine JM rfl rfl ?_
        refine JM rfl rfl ?_
        refine JL_bnd fun y52 hy53 => ?_
        refine JL_st wn rfl (st_index 6 Try.underlying52 ti_67 rfl rfl rfl hy53) (fun q54 => ?_)
        refine JL_st wn rfl (st_field_pt 0 (GExpr.at_Kind _) fi_67_0 rfl rfl rfl) (fun q55 => ?_)
        refine JL_st wn rfl (st_load_pt_o 0 (opens_int _) ti_2 rfl rfl) (fun _ => ?_)
        refine JL_bnd fun r57 hr58 => ?_
        refine JL_call wn rfl Try.call52 rfl (Ca_of0 fun w hh => c_spec_l22Many _ w (fun _ hk => hk.elim) _ _ hr58) (fun _ => ?_)
        refine JL_q wn rfl (ex_sub rfl rfl) ?_
        refine JL_q wn rfl (ex_add rfl rfl) ?_
        refine JA rfl rfl ?_
        refine JL_nil ?_
        refine N_block ?_
        refine N_then ?_
        refine J_region ?_
        refine JM rfl rfl ?_
        refine JL_q wn rfl (ex_add rfl rfl) ?_
        refine JA rfl rfl ?_
        refine JL_nil ?_
        exact N_next' () ⟨rfl, rfl, rfl, trivial⟩ [8] rfl rfl
     ·refine JL_passed rfl rfl rfl h24 ?_
      refine JL_passed rfl rfl rfl h24 ?_
      refine JL_passed rfl rfl rfl h24 ?_
      refine JL_passed rfl rfl rfl h24 ?_
      refine JL_passed rfl rfl rfl h24 ?_
      refine JL_passed rfl rfl rfl h24 ?_
      refine JL_passed rfl rfl rfl h24 ?_
      refine JL_q wn rfl (ex_pick_false rfl h24 rfl) ?_
      refine JM rfl rfl ?_
      refine JL_q (wants_some rfl rfl rfl rfl) rfl (ex_move rfl) ?_
      refine JL_q (wants_some rfl rfl rfl rfl) rfl (ex_move rfl) ?_
      refine JL_bnd fun y59 hy60 => ?_
      refine JL_st (wants_some rfl rfl rfl rfl) rfl (st_index 2 Try.underlying52 ti_67 rfl rfl rfl hy60) (fun q61 => ?_)
      refine JL_st (wants_some rfl rfl rfl rfl) rfl (st_field_pt 0 (GExpr.at_Kind _) fi_67_0 rfl rfl rfl) (fun q62 => ?_)
      refine JL_st (wants_some rfl rfl rfl rfl) rfl (st_load_pt_o 0 (opens_int _) ti_2 rfl rfl) (fun _ => ?_)
      refine JL_q (wants_some rfl rfl rfl rfl) rfl (ex_neq rfl rfl) ?_
      refine JL_q (wants_some rfl rfl rfl rfl) rfl (ex_move rfl) ?_
      refine JL_cond (fun h64 => ?_) (fun h64 => ?_)
      ·refine JL_q (wants_some rfl rfl rfl h64) rfl (ex_move rfl) ?_
       refine JL_q (wants_some rfl rfl rfl h64) rfl (ex_move rfl) ?_
       refine JL_bnd fun y65 hy66 => ?_
       refine JL_st (wants_some rfl rfl rfl h64) rfl (st_index 4 Try.underlying52 ti_67 rfl rfl rfl hy66) (fun q67 => ?_)
       refine JL_st (wants_some rfl rfl rfl h64) rfl (st_field_pt 0 (GExpr.at_Variable _) fi_67_1 rfl rfl rfl) (fun q68 => ?_)
       refine JL_st (wants_some rfl rfl rfl h64) rfl (st_load_pt_o 0 (opens_int _) ti_2 rfl rfl) (fun _ => ?_)
       refine JL_q (wants_some rfl rfl rfl h64) rfl (ex_neq rfl rfl) ?_
       refine JL_q (wants_some rfl rfl rfl rfl) rfl (ex_pick_true rfl h64 rfl) ?_
       refine JL_q wn rfl (ex_pick_false rfl rfl rfl) ?_
       refine JL_nt ?_
       refine J_if rfl (fun h70 => ?_) (fun h70 => ?_)
       ·refine J_sr ?_
        refine JA rfl rfl ?_
        refine JL_nt ?_
        refine J_ret ?_
        refine N_then_ret ?_
        refine N_block_ret ?_
        refine N_then_ret ?_
        refine N_round_ret ?_
        refine N_then_ret ?_
        exact N_ret1 rfl (rv_tmp rfl) (fun w hh => ⟨(), rfl, hh.sel [] rfl⟩)
       ·refine J_skip ?_
        refine N_then ?_
        refine J_region ?_
        refine JM rfl rfl ?_
        refine JM rfl rfl ?_
        refine JM rfl rfl ?_
        refine JL_bnd fun y71 hy72 => ?_
        refine JL_st wn rfl (st_index 6 Try.underlying52 ti_67 rfl rfl rfl hy72) (fun q73 => ?_)
        refine JL_st wn rfl (st_field_pt 0 (GExpr.at_Kind _) fi_67_0 rfl rfl rfl) (fun q74 => ?_)
        refine JL_st wn rfl (st_load_pt_o 0 (opens_int _) ti_2 rfl rfl) (fun _ => ?_)
        refine JL_bnd fun r76 hr77 => ?_
        refine JL_call wn rfl Try.call52 rfl (Ca_of0 fun w hh => c_spec_l22Many _ w (fun _ hk => hk.elim) _ _ hr77) (fun _ => ?_)
        refine JL_q wn rfl (ex_sub rfl rfl) ?_
        refine JL_q wn rfl (ex_add rfl rfl) ?_
        refine JA rfl rfl ?_
        refine JL_nil ?_
        refine N_block ?_
        refine N_then ?_
        refine J_region ?_
        refine JM rfl rfl ?_
        refine JL_q wn rfl (ex_add rfl rfl) ?_
        refine JA rfl rfl ?_
        refine JL_nil ?_
        exact N_next' () ⟨rfl, rfl, rfl, trivial⟩ [8] rfl rfl
      ·refine JL_passed rfl rfl rfl h64 ?_
       refine JL_passed rfl rfl rfl h64 ?_
       refine JL_passed rfl rfl rfl h64 ?_
       refine JL_passed rfl rfl rfl h64 ?_
       refine JL_passed rfl rfl rfl h64 ?_
       refine JL_passed rfl rfl rfl h64 ?_
       refine JL_q (wants_some rfl rfl rfl rfl) rfl (ex_pick_false rfl h64 rfl) ?_
       refine JL_q wn rfl (ex_pick_false rfl rfl rfl) ?_
       refine JL_nt ?_
       refine J_if_false rfl rfl ?_
       refine J_skip ?_
       refine N_then ?_
       refine J_region ?_
       refine JM rfl rfl ?_
       refine JM rfl rfl ?_
       refine JM rfl rfl ?_
       refine JL_bnd fun y78 hy79 => ?_
       refine JL_st wn rfl (st_index 4 Try.underlying52 ti_67 rfl rfl rfl hy79) (fun q80 => ?_)
       refine JL_st wn rfl (st_field_pt 0 (GExpr.at_Kind _) fi_67_0 rfl rfl rfl) (fun q81 => ?_)
       refine JL_st wn rfl (st_load_pt_o 0 (opens_int _) ti_2 rfl rfl) (fun _ => ?_)
       refine JL_bnd fun r83 hr84 => ?_
       refine JL_call wn rfl Try.call52 rfl (Ca_of0 fun w hh => c_spec_l22Many _ w (fun _ hk => hk.elim) _ _ hr84) (fun _ => ?_)
       refine JL_q wn rfl (ex_sub rfl rfl) ?_
       refine JL_q wn rfl (ex_add rfl rfl) ?_
       refine JA rfl rfl ?_
       refine JL_nil ?_
       refine N_block ?_
       refine N_then ?_
       refine J_region ?_
       refine JM rfl rfl ?_
       refine JL_q wn rfl (ex_add rfl rfl) ?_
       refine JA rfl rfl ?_
       refine JL_nil ?_
       exact N_next' () ⟨rfl, rfl, rfl, trivial⟩ [6] rfl rfl
   ·refine J_exit ?_
    refine N_then_exit ?_
    exact N_break' () ⟨rfl, rfl, rfl, trivial⟩ [0] rfl rfl
  ·refine N_then ?_
   refine J_sr ?_
   refine JM rfl rfl ?_
   refine JL_q wn rfl (ex_eql rfl rfl) ?_
   refine JA rfl rfl ?_
   refine JL_nt ?_
   refine J_ret ?_
   exact N_ret1 rfl (rv_tmp rfl) (fun w hh => ⟨(), rfl, hh.sel [] rfl⟩)
set_option maxHeartbeats 40000000 in
theorem c_spec_l22Is (A : Nat → Prop) (w : World) (hA : ∀ k, A k → k < w.heap.size) (v0_ : Value) (p0 : (List GCommand)) (hp0 : Rd A w v0_ p0) (r : Bool) (hr : F_spec_l22Is p0 = some r) :
  Con Try.prog 49 [v0_] A w (fun x_ : Unit => .bool r) (fun x_ => []) := by
 refine Con_of (v := fun (r : Bool) (x_ : Unit) => .bool r) (fs := fun r x_ => []) Try.func49 rfl Try.ntmps49 rfl ((SH.start hA).start_rd rfl hp0) rfl ?_ hr
 unfold F_spec_l22Is
 refine J_sr ?_
 refine JA rfl rfl ?_
 refine JL_nt ?_
 refine J_seq ?_
 refine J_sr ?_
 refine JM rfl rfl ?_
 refine JL_q wn rfl (ex_len_rd 0 Try.underlying24 rfl rfl) ?_
 refine JL_q wn rfl (ex_gtr rfl rfl) ?_
 refine JL_nt ?_
 refine J_if rfl (fun h1 => ?_) (fun h1 => ?_)
 ·refine J_sr ?_
  refine JA rfl rfl ?_
  refine JL_nt ?_
  refine J_ret ?_
  refine N_then_ret ?_
  exact N_ret1 rfl (rv_tmp rfl) (fun w hh => ⟨(), rfl, hh.sel [] rfl⟩)
 ·refine J_skip ?_
  refine N_then ?_
  refine J_sr ?_
  refine JM rfl rfl ?_
  refine JL_q wn rfl (ex_len_rd 0 Try.underlying24 rfl rfl) ?_
  refine JL_st wn rfl (st_buildSlice (vs := [.int .i64 (p0.length : Int)]) ([(p0.length : Int)] : List Int) Try.underlying106 ti_3 zi_3 rfl rfl rfl (fun w hh => ⟨(Rd.mk_int _ _ _), trivial⟩)) (fun b2 => ?_)
  refine JA rfl rfl ?_
  refine JL_nt ?_
  refine J_seq ?_
  refine J_sr ?_
  refine JA rfl rfl ?_
  refine JL_nt ?_
  refine J_loop' (S := (List Int) × Int) (G := Value) (F_spec_l22Is_L1 p0) (fun s3 g4 => [(0, v0_), (3, g4), (4, .int .i64 s3.2)]) (fun s3 g4 => [.rd v0_ p0, .ow 3 g4 s3.1]) (([(p0.length : Int)] : List Int), 0) (.slice (some ⟨b2, 0, none⟩) 1 1) ⟨rfl, rfl, rfl, trivial⟩ [1, 0] rfl rfl (fun s3 g4 => ?_) (fun s3 g4 => ?_)
  ·unfold F_spec_l22Is_L1
   refine J_seq ?_
   refine J_sr ?_
   refine JM rfl rfl ?_
   refine JM rfl rfl ?_
   refine JL_q wn rfl (ex_len_rd 0 Try.underlying24 rfl rfl) ?_
   refine JL_q wn rfl (ex_lss rfl rfl) ?_
   refine JL_nt ?_
   refine J_if rfl (fun h5 => ?_) (fun h5 => ?_)
   ·refine J_skip ?_
    refine N_then ?_
    refine J_seq ?_
    refine J_block ?_
    refine J_seq ?_
    refine J_loop' (S := (List Int)) (G := Value) (F_spec_l22Is_L2 s3) (fun s6 g7 => [(0, v0_), (3, g7), (4, .int .i64 s3.2)]) (fun s6 g7 => [.rd v0_ p0, .ow 3 g7 s6]) s3.1 g4 ⟨rfl, rfl, rfl, trivial⟩ [0, 1] rfl rfl (fun s6 g7 => ?_) (fun s6 g7 => ?_)
    ·unfold F_spec_l22Is_L2
     refine J_seq ?_
     refine J_sr ?_
     refine JM rfl rfl ?_
     refine JL_q wn rfl (ex_len_ow 1 Try.underlying106 rfl rfl) ?_
     refine JL_q wn rfl (ex_gtr rfl rfl) ?_
     refine JM rfl rfl ?_
     refine JL_cond (fun h8 => ?_) (fun h8 => ?_)
     ·refine JL_q (wants_some rfl rfl rfl h8) rfl (ex_move rfl) ?_
      refine JL_q (wants_some rfl rfl rfl h8) rfl (ex_move rfl) ?_
      refine JL_q (wants_some rfl rfl rfl h8) rfl (ex_len_ow 1 Try.underlying106 rfl rfl) ?_
      refine JL_q (wants_some rfl rfl rfl h8) rfl (ex_sub rfl rfl) ?_
      refine JL_bnd fun y9 hy10 => ?_
      refine JL_ow_open (v := g7) 1 rfl hy10 ?_; rintro b11 cap12 rfl
      refine JL_q (wants_some rfl rfl rfl h8) rfl (ex_index_ow 1 Try.underlying106 ti_3 rfl rfl rfl hy10) ?_
      refine JL_q (wants_some rfl rfl rfl h8) rfl (ex_load_ow_int 1 ti_3 rfl rfl hy10) ?_
      refine JL_q (wants_some rfl rfl rfl h8) rfl (ex_move rfl) ?_
      refine JL_q (wants_some rfl rfl rfl h8) rfl (ex_eql rfl rfl) ?_
      refine JL_q wn rfl (ex_pick_true rfl h8 rfl) ?_
      refine JL_nt ?_
      refine J_if rfl (fun h14 => ?_) (fun h14 => ?_)
      ·refine J_skip ?_
       refine N_then ?_
       refine J_block ?_
       refine J_region ?_
       refine JM rfl rfl ?_
       refine JM rfl rfl ?_
       refine JL_q wn rfl (ex_len_ow 1 Try.underlying106 rfl rfl) ?_
       refine JL_q wn rfl (ex_sub rfl rfl) ?_
       refine JL_bnd fun z15 hz16 => ?_
       refine JL_st wn rfl (st_slice_own 1 Try.underlying106 ti_3 rfl rfl rfl hz16) (fun v17 => ?_)
       refine JA rfl rfl ?_
       refine JL_nil ?_
       refine N_block ?_
       exact N_next' v17 ⟨rfl, rfl, rfl, trivial⟩ [0, 1] rfl rfl
      ·refine J_exit ?_
       refine N_then_exit ?_
       exact N_break' (.slice (some ⟨b11, 0, none⟩) s6.length cap12) ⟨rfl, rfl, rfl, trivial⟩ [0, 1] rfl rfl
     ·refine JL_passed rfl rfl rfl h8 ?_
      refine JL_passed rfl rfl rfl h8 ?_
      refine JL_passed rfl rfl rfl h8 ?_
      refine JL_passed rfl rfl rfl h8 ?_
      refine JL_passed rfl rfl rfl h8 ?_
      refine JL_passed rfl rfl rfl h8 ?_
      refine JL_passed rfl rfl rfl h8 ?_
      refine JL_passed rfl rfl rfl h8 ?_
      refine JL_q wn rfl (ex_pick_false rfl h8 rfl) ?_
      refine JL_nt ?_
      refine J_if_false rfl rfl ?_
      refine J_exit ?_
      refine N_then_exit ?_
      exact N_break' g7 ⟨rfl, rfl, rfl, trivial⟩ [0, 1] rfl rfl
    ·refine N_then ?_
     refine J_sr ?_
     refine JM rfl rfl ?_
     refine JM rfl rfl ?_
     refine JL_bnd fun y18 hy19 => ?_
     refine JL_st wn rfl (st_index 0 Try.underlying24 ti_54 rfl rfl rfl hy19) (fun q20 => ?_)
     refine JA rfl rfl ?_
     refine JL_nt ?_
     refine J_seq ?_
     refine J_cut' (S' := Unit) (G' := Unit) (fun _ _ => [(0, v0_), (3, g7), (4, .int .i64 s3.2), (5, q20)]) (fun _ _ => [.rd v0_ p0, .ow 3 g7 s6, .pt q20 y18]) ?_ (fun s21 g22 => ?_)
     ·refine J_sr ?_
      refine JM rfl rfl ?_
      refine JL_q wn rfl (ex_nilCheck_pt 0 rfl rfl) ?_
      refine JL_st wn rfl (st_field_pt 0 (GCommand.at_Value_ _) fi_54_3 rfl rfl rfl) (fun q23 => ?_)
      refine JL_st wn rfl (st_load_pt_o 0 (opens_sl _) ti_52 rfl rfl) (fun v24 => ?_)
      refine JL_bnd fun r25 hr26 => ?_
      refine JL_call wn rfl Try.call69 rfl (Ca_of0 fun w hh => c_spec_l22Expr _ w (fun _ hk => hk.elim) _ _ (hh.rd0 0 rfl) _ hr26) (fun _ => ?_)
      refine JL_q wn rfl (ex_not rfl) ?_
      refine JM rfl rfl ?_
      refine JL_cond (fun h27 => ?_) (fun h27 => ?_)
      ·refine JL_passed rfl rfl rfl h27 ?_
       refine JL_passed rfl rfl rfl h27 ?_
       refine JL_passed rfl rfl rfl h27 ?_
       refine JL_passed rfl rfl rfl h27 ?_
       refine JL_passed rfl rfl rfl h27 ?_
       refine JL_passed rfl rfl rfl h27 ?_
       refine JL_q wn rfl (ex_pick_true rfl h27 rfl) ?_
       refine JL_nt ?_
       refine J_if_true rfl rfl ?_
       refine J_sr ?_
       refine JA rfl rfl ?_
       refine JL_nt ?_
       refine J_ret ?_
       refine N_mid_ret ?_
       refine N_then_ret ?_
       refine N_block_ret ?_
       refine N_then_ret ?_
       refine N_round_ret ?_
       refine N_then_ret ?_
       exact N_ret1 rfl (rv_tmp rfl) (fun w hh => ⟨(), rfl, hh.sel [] rfl⟩)
      ·refine JL_q (wants_some rfl rfl rfl h27) rfl (ex_move rfl) ?_
       refine JL_q (wants_some rfl rfl rfl h27) rfl (ex_nilCheck_pt 2 rfl rfl) ?_
       refine JL_st (wants_some rfl rfl rfl h27) rfl (st_field_pt 2 (GCommand.at_Variable _) fi_54_1 rfl rfl rfl) (fun q28 => ?_)
       refine JL_st (wants_some rfl rfl rfl h27) rfl (st_load_pt_o 0 (opens_int _) ti_2 rfl rfl) (fun _ => ?_)
       refine JL_bnd fun r30 hr31 => ?_
       refine JL_call (wants_some rfl rfl rfl h27) rfl Try.call70 rfl (Ca_of0 fun w hh => c_spec_l00In _ w (fun _ hk => hk.elim) _ _ _ _ hr31) (fun _ => ?_)
       refine JL_q (wants_some rfl rfl rfl h27) rfl (ex_not rfl) ?_
       refine JL_q wn rfl (ex_pick_false rfl h27 rfl) ?_
       refine JL_nt ?_
       refine J_if rfl (fun h32 => ?_) (fun h32 => ?_)
       ·refine J_sr ?_
        refine JA rfl rfl ?_
        refine JL_nt ?_
        refine J_ret ?_
        refine N_mid_ret ?_
        refine N_then_ret ?_
        refine N_block_ret ?_
        refine N_then_ret ?_
        refine N_round_ret ?_
        refine N_then_ret ?_
        exact N_ret1 rfl (rv_tmp rfl) (fun w hh => ⟨(), rfl, hh.sel [] rfl⟩)
       ·refine J_skip ?_
        exact N_meet' () ⟨rfl, rfl, rfl, rfl, trivial⟩ [4, 5, 3] rfl rfl
     ·refine N_then ?_
      refine J_sr ?_
      refine JM rfl rfl ?_
      refine JL_q wn rfl (ex_nilCheck_pt 2 rfl rfl) ?_
      refine JL_st wn rfl (st_field_pt 2 (GCommand.at_Kind _) fi_54_0 rfl rfl rfl) (fun q33 => ?_)
      refine JL_st wn rfl (st_load_pt_o 0 (opens_int _) ti_2 rfl rfl) (fun _ => ?_)
      refine JL_nt ?_
      refine J_block ?_
      refine J_sr ?_
      refine JL_q wn rfl (ex_eql rfl rfl) ?_
      refine JA rfl rfl ?_
      refine JL_nt ?_
      refine J_if rfl (fun h35 => ?_) (fun h35 => ?_)
      ·refine J_sr ?_
       refine JM rfl rfl ?_
       refine JL_q wn rfl (ex_nilCheck_pt 3 rfl rfl) ?_
       refine JL_st wn rfl (st_field_pt 3 (GCommand.at_Length _) fi_54_2 rfl rfl rfl) (fun q36 => ?_)
       refine JL_st wn rfl (st_load_pt_o 0 (opens_int _) ti_2 rfl rfl) (fun _ => ?_)
       refine JL_q wn rfl (ex_neq rfl rfl) ?_
       refine JL_nt ?_
       refine J_if rfl (fun h38 => ?_) (fun h38 => ?_)
       ·refine J_sr ?_
        refine JA rfl rfl ?_
        refine JL_nt ?_
        refine J_ret ?_
        refine N_block_ret ?_
        refine N_block_ret ?_
        refine N_then_ret ?_
        refine N_round_ret ?_
        refine N_then_ret ?_
        exact N_ret1 rfl (rv_tmp rfl) (fun w hh => ⟨(), rfl, hh.sel [] rfl⟩)
       ·refine J_skip ?_
        refine N_block ?_
        refine N_block ?_
        refine N_then ?_
        refine J_region ?_
        refine JM rfl rfl ?_
        refine JL_q wn rfl (ex_add rfl rfl) ?_
        refine JA rfl rfl ?_
        refine JL_nil ?_
        exact N_next' g7 ⟨rfl, rfl, rfl, trivial⟩ [2, 3] rfl rfl
      ·refine J_sr ?_
       refine JL_q wn rfl (ex_eql rfl rfl) ?_
       refine JA rfl rfl ?_
       refine JL_nt ?_
       refine J_if rfl (fun h39 => ?_) (fun h39 => ?_)
       ·refine J_seq ?_
        refine J_seq ?_
        refine J_draw [2] (by kernel_rfl) ?_
        refine JP_take (i := 0) [0, 1, 3] [2] rfl (by kernel_rfl) (by kernel_rfl) (by kernel_rfl) rfl rfl wn rfl (ex_move rfl) ?_
        refine JP_take (i := 1) [0, 1, 3] [2] rfl (by kernel_rfl) (by kernel_rfl) (by kernel_rfl) rfl rfl wn rfl (ex_nilCheck_pt 2 rfl rfl) ?_
        refine JP_sq (i := 2) [2] rfl (by kernel_rfl) (by kernel_rfl) (by kernel_rfl) rfl wn rfl (sq_field_pt 3 (GCommand.at_Variable _) fi_54_1 rfl rfl rfl) (fun q40 => ?_)
        refine JP_sq (i := 3) [3] rfl (by kernel_rfl) (by kernel_rfl) (by kernel_rfl) rfl wn rfl (sq_load_pt_o 0 (opens_int _) ti_2 rfl rfl) (fun _ => ?_)
        refine JP_take (i := 4) [0, 1, 2, 4] [3] rfl (by kernel_rfl) (by kernel_rfl) (by kernel_rfl) rfl rfl wn rfl (ex_neq rfl rfl) ?_
        refine JP_take (i := 5) [0, 1, 2, 4] [3] rfl (by kernel_rfl) (by kernel_rfl) (by kernel_rfl) rfl rfl wn rfl (ex_move rfl) ?_
        refine JP_cond (fun h42 => ?_) (fun h42 => ?_)
        ·refine JP_pass (i := 6) rfl (by kernel_rfl) (by kernel_rfl) (by kernel_rfl) rfl rfl h42 rfl ?_
         refine JP_pass (i := 7) rfl (by kernel_rfl) (by kernel_rfl) (by kernel_rfl) rfl rfl h42 rfl ?_
         refine JP_pass (i := 8) rfl (by kernel_rfl) (by kernel_rfl) (by kernel_rfl) rfl rfl h42 rfl ?_
         refine JP_pass (i := 9) rfl (by kernel_rfl) (by kernel_rfl) (by kernel_rfl) rfl rfl h42 rfl ?_
         refine JP_pass (i := 10) rfl (by kernel_rfl) (by kernel_rfl) (by kernel_rfl) rfl rfl h42 rfl ?_
         refine JP_pass (i := 11) rfl (by kernel_rfl) (by kernel_rfl) (by kernel_rfl) rfl rfl h42 rfl ?_
         refine JP_pass (i := 12) rfl (by kernel_rfl) (by kernel_rfl) (by kernel_rfl) rfl rfl h42 rfl ?_
         refine JP_pass (i := 13) rfl (by kernel_rfl) (by kernel_rfl) (by kernel_rfl) rfl rfl h42 rfl ?_
         refine JP_pass (i := 14) rfl (by kernel_rfl) (by kernel_rfl) (by kernel_rfl) rfl rfl h42 rfl ?_
         refine JP_pass (i := 15) rfl (by kernel_rfl) (by kernel_rfl) (by kernel_rfl) rfl rfl h42 rfl ?_
         refine JP_pass (i := 16) rfl (by kernel_rfl) (by kernel_rfl) (by kernel_rfl) rfl rfl h42 rfl ?_
         refine JP_pass (i := 17) rfl (by kernel_rfl) (by kernel_rfl) (by kernel_rfl) rfl rfl h42 rfl ?_
         refine JP_pass (i := 18) rfl (by kernel_rfl) (by kernel_rfl) (by kernel_rfl) rfl rfl h42 rfl ?_
         refine JP_pass (i := 19) rfl (by kernel_rfl) (by kernel_rfl) (by kernel_rfl) rfl rfl h42 rfl ?_
         refine JP_pass (i := 20) rfl (by kernel_rfl) (by kernel_rfl) (by kernel_rfl) rfl rfl h42 rfl ?_
         refine JP_take (i := 21) [0, 1, 2, 4] [3] rfl (by kernel_rfl) (by kernel_rfl) (by kernel_rfl) rfl rfl wn rfl (ex_pick_true rfl h42 rfl) ?_
         refine JP_go [] [3] rfl rfl rfl (fun _ _ _ => ?_)
         refine JD_done (by kernel_rfl) ?_
         refine N_then ?_
         refine J_if_true rfl rfl ?_
         refine J_sr ?_
         refine JA rfl rfl ?_
         refine JL_nt ?_
         refine J_ret ?_
         refine N_then_ret ?_
         refine N_block_ret ?_
         refine N_block_ret ?_
         refine N_then_ret ?_
         refine N_round_ret ?_
         refine N_then_ret ?_
         exact N_ret1 rfl (rv_tmp rfl) (fun w hh => ⟨(), rfl, hh.sel [] rfl⟩)
        ·refine JP_take (i := 6) [0, 1, 2, 4] [3] rfl (by kernel_rfl) (by kernel_rfl) (by kernel_rfl) rfl rfl (wants_some rfl rfl rfl h42) rfl (ex_move rfl) ?_
         refine JP_take (i := 7) [0, 1, 2, 4] [3] rfl (by kernel_rfl) (by kernel_rfl) (by kernel_rfl) rfl rfl (wants_some rfl rfl rfl h42) rfl (ex_nilCheck_pt 3 rfl rfl) ?_
         refine JP_sq (i := 8) [3] rfl (by kernel_rfl) (by kernel_rfl) (by kernel_rfl) rfl (wants_some rfl rfl rfl h42) rfl (sq_field_pt 4 (GCommand.at_Length _) fi_54_2 rfl rfl rfl) (fun q43 => ?_)
         refine JP_sq (i := 9) [4] rfl (by kernel_rfl) (by kernel_rfl) (by kernel_rfl) rfl (wants_some rfl rfl rfl h42) rfl (sq_load_pt_o 0 (opens_int _) ti_2 rfl rfl) (fun _ => ?_)
         refine JP_take (i := 10) [0, 1, 2, 3, 5] [4] rfl (by kernel_rfl) (by kernel_rfl) (by kernel_rfl) rfl rfl (wants_some rfl rfl rfl h42) rfl (ex_move rfl) ?_
         refine JP_take (i := 11) [0, 1, 2, 3, 5] [4] rfl (by kernel_rfl) (by kernel_rfl) (by kernel_rfl) rfl rfl (wants_some rfl rfl rfl h42) rfl (ex_move rfl) ?_
         refine JP_take (i := 16) [0, 1, 2, 3, 5] [4] rfl (by kernel_rfl) (by kernel_rfl) (by kernel_rfl) rfl rfl (wants_some rfl rfl rfl h42) rfl (ex_move rfl) ?_
         refine JP_go [0, 1, 2, 3, 5] [4] rfl rfl rfl (fun w46 h1_47 hp45 => ?_)
         refine JD_one (i := 12) (by kernel_rfl) ?_
         refine JO_q rfl (wants_some rfl rfl rfl h42) rfl (ex_len_ow 4 Try.underlying106 rfl rfl) ?_
         refine JD_take (i := 13) hp45 rfl (by kernel_rfl) (by kernel_rfl) (by kernel_rfl) (wants_some rfl rfl rfl h42) rfl (ex_sub rfl rfl) ?_
         refine JD_bnd fun y48 hy49 => ?_
         refine JD_ow_open (v := g7) 4 rfl hy49 ?_; rintro b50 cap51 rfl
         refine JD_take (i := 14) hp45 rfl (by kernel_rfl) (by kernel_rfl) (by kernel_rfl) (wants_some rfl rfl rfl h42) rfl (ex_index_own Try.underlying106 ti_3 rfl rfl hy49 (by first | rfl | simp)) ?_
         refine JD_one (i := 15) (by kernel_rfl) ?_
         refine JO_q rfl (wants_some rfl rfl rfl h42) rfl (ex_load_ow_int 4 ti_3 rfl rfl hy49) ?_
         refine JD_take (i := 17) hp45 rfl (by kernel_rfl) (by kernel_rfl) (by kernel_rfl) (wants_some rfl rfl rfl h42) rfl (ex_sub rfl rfl) ?_
         refine JD_take (i := 18) hp45 rfl (by kernel_rfl) (by kernel_rfl) (by kernel_rfl) (wants_some rfl rfl rfl h42) rfl (ex_sub rfl rfl) ?_
         refine JD_bnd fun r53 hr54 => ?_
         refine JD_one (i := 19) (by kernel_rfl) ?_
         refine JO_call rfl (wants_some rfl rfl rfl h42) rfl Try.call70 rfl (Ca_of0 fun w hh => c_spec_l00In _ w (fun _ hk => hk.elim) _ _ _ _ hr54) (fun _ => ?_)
         refine JD_take (i := 20) hp45 rfl (by kernel_rfl) (by kernel_rfl) (by kernel_rfl) (wants_some rfl rfl rfl h42) rfl (ex_not rfl) ?_
         refine JD_take (i := 21) hp45 rfl (by kernel_rfl) (by kernel_rfl) (by kernel_rfl) wn rfl (ex_pick_false rfl h42 rfl) ?_
         refine JD_done (by kernel_rfl) ?_
         refine N_then ?_
         refine J_if rfl (fun h55 => ?_) (fun h55 => ?_)
         ·refine J_sr ?_
          refine JA rfl rfl ?_
          refine JL_nt ?_
          refine J_ret ?_
          refine N_then_ret ?_
          refine N_block_ret ?_
          refine N_block_ret ?_
          refine N_then_ret ?_
          refine N_round_ret ?_
          refine N_then_ret ?_
          exact N_ret1 rfl (rv_tmp rfl) (fun w hh => ⟨(), rfl, hh.sel [] rfl⟩)
         ·refine J_skip ?_
          refine N_then ?_
          refine J_region ?_
          refine JM rfl rfl ?_
          refine JM rfl rfl ?_
          refine JL_q wn rfl (ex_add rfl rfl) ?_
          refine JM rfl rfl ?_
          refine JL_q wn rfl (ex_nilCheck_pt 5 rfl rfl) ?_
          refine JL_st wn rfl (st_field_pt 5 (GCommand.at_Length _) fi_54_2 rfl rfl rfl) (fun q56 => ?_)
          refine JL_st wn rfl (st_load_pt_o 0 (opens_int _) ti_2 rfl rfl) (fun _ => ?_)
          refine JL_q wn rfl (ex_add rfl rfl) ?_
          refine JL_st wn rfl (st_buildSlice (vs := [.int .i64 (w64 ((w64 (s3.2 + 1)) + y18.Length))]) ([(w64 ((w64 (s3.2 + 1)) + y18.Length))] : List Int) Try.underlying106 ti_3 zi_3 rfl rfl rfl (fun w hh => ⟨(Rd.mk_int _ _ _), trivial⟩)) (fun b58 => ?_)
          refine JL_bnd fun z59 hz60 => ?_
          refine JL_st wn rfl (st_append 6 Try.underlying106 ti_3 zi_3 rfl bi_3 rfl rfl rfl rfl (fun w hh => hh.src_ow 0 rfl) hz60) (fun v61 => ?_)
          refine JA rfl rfl ?_
          refine JL_nil ?_
          refine N_block ?_
          refine N_block ?_
          refine N_then ?_
          refine J_region ?_
          refine JM rfl rfl ?_
          refine JL_q wn rfl (ex_add rfl rfl) ?_
          refine JA rfl rfl ?_
          refine JL_nil ?_
          exact N_next' v61 ⟨rfl, rfl, rfl, trivial⟩ [5, 6] rfl rfl
       ·refine J_sr ?_
        refine JA rfl rfl ?_
        refine JL_nt ?_
        refine J_ret ?_
        refine N_block_ret ?_
        refine N_block_ret ?_
        refine N_then_ret ?_
        refine N_round_ret ?_
        refine N_then_ret ?_
        exact N_ret1 rfl (rv_tmp rfl) (fun w hh => ⟨(), rfl, hh.sel [] rfl⟩)
   ·refine J_exit ?_
    refine N_then_exit ?_
    exact N_break' g4 ⟨rfl, rfl, rfl, trivial⟩ [0, 1] rfl rfl
  ·refine N_then ?_
   refine J_sr ?_
   refine JA rfl rfl ?_
   refine JL_nt ?_
   refine J_ret ?_
   exact N_ret1 rfl (rv_tmp rfl) (fun w hh => ⟨(), rfl, hh.sel [] rfl⟩)
set_option maxHeartbeats 40000000 in
theorem c_spec_l01Dec (A : Nat → Prop) (w : World) (hA : ∀ k, A k → k < w.heap.size) (p0 : Int) (r : ByteArray) (hr : F_spec_l01Dec p0 = some r) :
  Con Try.prog 71 [.int .i64 p0] A w (fun x_ : Unit => .string r) (fun x_ => []) := by
 refine Con_of (v := fun (r : ByteArray) (x_ : Unit) => .string r) (fs := fun r x_ => []) Try.func71 rfl Try.ntmps71 rfl (SH.start hA) rfl ?_ hr
 unfold F_spec_l01Dec
 refine J_sr ?_
 refine JA rfl rfl ?_
 refine JL_nt ?_
 refine J_seq ?_
 refine J_sr ?_
 refine JM rfl rfl ?_
 refine JL_q wn rfl (ex_eql rfl rfl) ?_
 refine JL_nt ?_
 refine J_if rfl (fun h1 => ?_) (fun h1 => ?_)
 ·refine J_sr ?_
  refine JA rfl rfl ?_
  refine JL_nt ?_
  refine J_ret ?_
  refine N_then_ret ?_
  exact N_ret1 rfl (rv_tmp rfl) (fun w hh => ⟨(), rfl, hh.sel [] rfl⟩)
 ·refine J_skip ?_
  refine N_then ?_
  refine J_sr ?_
  refine JL_st wn rfl (st_buildSlice (vs := []) ([] : List (Ik .u8)) Try.underlying22 ti_5 zi_5 rfl rfl rfl (fun w hh => trivial)) (fun b2 => ?_)
  refine JA rfl rfl ?_
  refine JL_nt ?_
  refine J_seq ?_
  refine J_sr ?_
  refine JM rfl rfl ?_
  refine JA rfl rfl ?_
  refine JL_nt ?_
  refine J_loop' (S := (List (Ik .u8)) × Int) (G := Value) (F_spec_l01Dec_L1) (fun s3 g4 => [(0, .int .i64 p0), (3, g4), (4, .int .i64 s3.2)]) (fun s3 g4 => [.ow 5 g4 s3.1]) (([] : List (Ik .u8)), p0) (.slice (some ⟨b2, 0, none⟩) 0 0) ⟨rfl, rfl, rfl, trivial⟩ [0] rfl rfl (fun s3 g4 => ?_) (fun s3 g4 => ?_)
  ·unfold F_spec_l01Dec_L1
   refine J_seq ?_
   refine J_sr ?_
   refine JM rfl rfl ?_
   refine JL_q wn rfl (ex_neq rfl rfl) ?_
   refine JL_nt ?_
   refine J_if rfl (fun h5 => ?_) (fun h5 => ?_)
   ·refine J_skip ?_
    refine N_then ?_
    refine J_seq ?_
    refine J_block ?_
    refine J_sr ?_
    refine JM rfl rfl ?_
    refine JL_q wn rfl (ex_rem rfl rfl (by decide)) ?_
    refine JA rfl rfl ?_
    refine JL_nt ?_
    refine J_seq ?_
    refine J_sr ?_
    refine JM rfl rfl ?_
    refine JL_q wn rfl (ex_lss rfl rfl) ?_
    refine JL_nt ?_
    refine J_if rfl (fun h6 => ?_) (fun h6 => ?_)
    ·refine J_region ?_
     refine JM rfl rfl ?_
     refine JL_q wn rfl (ex_neg rfl) ?_
     refine JA rfl rfl ?_
     refine JL_nt ?_
     refine J_region ?_
     refine JM rfl rfl ?_
     refine JM rfl rfl ?_
     refine JL_q wn rfl (ex_add rfl rfl) ?_
     refine JL_q wn rfl (ex_conv_ik Try.underlying2 Try.underlying5 rfl) ?_
     refine JL_st wn rfl (st_buildSlice (vs := [.int .u8 (wk .u8 (w64 (48 + (w64 (0 - (Int.tmod s3.2 10))))))]) ([(⟨(wk .u8 (w64 (48 + (w64 (0 - (Int.tmod s3.2 10))))))⟩ : Ik .u8)] : List (Ik .u8)) Try.underlying22 ti_5 zi_5 rfl rfl rfl (fun w hh => ⟨(Rd.mk_ik _ _ _), trivial⟩)) (fun b7 => ?_)
     refine JL_bnd fun z8 hz9 => ?_
     refine JL_st wn rfl (st_append 1 Try.underlying22 ti_5 zi_5 rfl bi_5 rfl rfl rfl rfl (fun w hh => hh.src_ow 0 rfl) hz9) (fun v10 => ?_)
     refine JA rfl rfl ?_
     refine JL_nil ?_
     refine N_block ?_
     refine N_then ?_
     refine J_region ?_
     refine JM rfl rfl ?_
     refine JL_q wn rfl (ex_quo rfl rfl (by decide)) ?_
     refine JA rfl rfl ?_
     refine JL_nil ?_
     exact N_next' v10 ⟨rfl, rfl, rfl, trivial⟩ [1] rfl rfl
    ·refine J_skip ?_
     refine N_then ?_
     refine J_region ?_
     refine JM rfl rfl ?_
     refine JM rfl rfl ?_
     refine JL_q wn rfl (ex_add rfl rfl) ?_
     refine JL_q wn rfl (ex_conv_ik Try.underlying2 Try.underlying5 rfl) ?_
     refine JL_st wn rfl (st_buildSlice (vs := [.int .u8 (wk .u8 (w64 (48 + (Int.tmod s3.2 10))))]) ([(⟨(wk .u8 (w64 (48 + (Int.tmod s3.2 10))))⟩ : Ik .u8)] : List (Ik .u8)) Try.underlying22 ti_5 zi_5 rfl rfl rfl (fun w hh => ⟨(Rd.mk_ik _ _ _), trivial⟩)) (fun b11 => ?_)
     refine JL_bnd fun z12 hz13 => ?_
     refine JL_st wn rfl (st_append 1 Try.underlying22 ti_5 zi_5 rfl bi_5 rfl rfl rfl rfl (fun w hh => hh.src_ow 0 rfl) hz13) (fun v14 => ?_)
     refine JA rfl rfl ?_
     refine JL_nil ?_
     refine N_block ?_
     refine N_then ?_
     refine J_region ?_
     refine JM rfl rfl ?_
     refine JL_q wn rfl (ex_quo rfl rfl (by decide)) ?_
     refine JA rfl rfl ?_
     refine JL_nil ?_
     exact N_next' v14 ⟨rfl, rfl, rfl, trivial⟩ [1] rfl rfl
   ·refine J_exit ?_
    refine N_then_exit ?_
    exact N_break' g4 ⟨rfl, rfl, rfl, trivial⟩ [0] rfl rfl
  ·refine N_then ?_
   refine J_seq ?_
   refine J_cut' (S' := (List (Ik .u8))) (G' := Value) (fun s15 g16 => [(3, g16)]) (fun s15 g16 => [.ow 5 g16 s15]) ?_ (fun s15 g16 => ?_)
   ·refine J_sr ?_
    refine JM rfl rfl ?_
    refine JL_q wn rfl (ex_lss rfl rfl) ?_
    refine JL_nt ?_
    refine J_if rfl (fun h17 => ?_) (fun h17 => ?_)
    ·refine J_region ?_
     refine JM rfl rfl ?_
     refine JL_st wn rfl (st_buildSlice (vs := [.int .u8 45]) ([(⟨45⟩ : Ik .u8)] : List (Ik .u8)) Try.underlying22 ti_5 zi_5 rfl rfl rfl (fun w hh => ⟨(Rd.mk_ik _ _ _), trivial⟩)) (fun b18 => ?_)
     refine JL_bnd fun z19 hz20 => ?_
     refine JL_st wn rfl (st_append 1 Try.underlying22 ti_5 zi_5 rfl bi_5 rfl rfl rfl rfl (fun w hh => hh.src_ow 0 rfl) hz20) (fun v21 => ?_)
     refine JA rfl rfl ?_
     refine JL_nil ?_
     exact N_meet' v21 ⟨rfl, trivial⟩ [1] rfl rfl
    ·refine J_skip ?_
     exact N_meet' g4 ⟨rfl, trivial⟩ [0] rfl rfl
   ·refine N_then ?_
    refine J_sr ?_
    refine JL_st wn rfl (st_buildSlice (vs := []) ([] : List (Ik .u8)) Try.underlying22 ti_5 zi_5 rfl rfl rfl (fun w hh => trivial)) (fun b22 => ?_)
    refine JA rfl rfl ?_
    refine JL_nt ?_
    refine J_seq ?_
    refine J_sr ?_
    refine JM rfl rfl ?_
    refine JL_q wn rfl (ex_len_ow 1 Try.underlying22 rfl rfl) ?_
    refine JL_q wn rfl (ex_sub rfl rfl) ?_
    refine JA rfl rfl ?_
    refine JL_nt ?_
    refine J_loop' (S := (List (Ik .u8)) × Int) (G := Value) (F_spec_l01Dec_L2 s15) (fun s23 g24 => [(3, g16), (6, g24), (7, .int .i64 s23.2)]) (fun s23 g24 => [.ow 5 g16 s15, .ow 5 g24 s23.1]) (([] : List (Ik .u8)), (w64 ((s15.length : Int) - 1))) (.slice (some ⟨b22, 0, none⟩) 0 0) ⟨rfl, rfl, rfl, trivial⟩ [1, 0] rfl rfl (fun s23 g24 => ?_) (fun s23 g24 => ?_)
    ·unfold F_spec_l01Dec_L2
     refine J_seq ?_
     refine J_sr ?_
     refine JM rfl rfl ?_
     refine JL_q wn rfl (ex_geq rfl rfl) ?_
     refine JL_nt ?_
     refine J_if rfl (fun h25 => ?_) (fun h25 => ?_)
     ·refine J_skip ?_
      refine N_then ?_
      refine J_seq ?_
      refine J_block ?_
      refine J_region ?_
      refine JM rfl rfl ?_
      refine JM rfl rfl ?_
      refine JM rfl rfl ?_
      refine JL_bnd fun y26 hy27 => ?_
      refine JL_ow_open (v := g16) 0 rfl hy27 ?_; rintro b28 cap29 rfl
      refine JL_q wn rfl (ex_index_ow 0 Try.underlying22 ti_5 rfl rfl rfl hy27) ?_
      refine JL_st wn rfl (st_load_ow_o 0 (opens_ik _) ti_5 rfl rfl hy27) (fun _ => ?_)
      refine JL_st wn rfl (st_buildSlice (vs := [.int .u8 y26.val]) ([y26] : List (Ik .u8)) Try.underlying22 ti_5 zi_5 rfl rfl rfl (fun w hh => ⟨(Rd.mk_ik _ _ _), trivial⟩)) (fun b31 => ?_)
      refine JL_bnd fun z32 hz33 => ?_
      refine JL_st wn rfl (st_append 2 Try.underlying22 ti_5 zi_5 rfl bi_5 rfl rfl rfl rfl (fun w hh => hh.src_ow 0 rfl) hz33) (fun v34 => ?_)
      refine JA rfl rfl ?_
      refine JL_nil ?_
      refine N_block ?_
      refine N_then ?_
      refine J_region ?_
      refine JM rfl rfl ?_
      refine JL_q wn rfl (ex_sub rfl rfl) ?_
      refine JA rfl rfl ?_
      refine JL_nil ?_
      exact N_next' v34 ⟨rfl, rfl, rfl, trivial⟩ [1, 2] rfl rfl
     ·refine J_exit ?_
      refine N_then_exit ?_
      exact N_break' g24 ⟨rfl, rfl, rfl, trivial⟩ [0, 1] rfl rfl
    ·refine N_then ?_
     refine J_sr ?_
     refine JM rfl rfl ?_
     refine JL_q wn rfl (ex_str Try.underlying22 Try.underlying5 Try.underlying9 rfl (fun w hh => (hh.ow0 1 rfl))) ?_
     refine JA rfl rfl ?_
     refine JL_nt ?_
     refine J_ret ?_
     exact N_ret1 rfl (rv_tmp rfl) (fun w hh => ⟨(), rfl, hh.sel [] rfl⟩)
end Go.Proofs.Ytlikagofgciflaa
