/-
  Each function of the program computes what its plain function says: printed by program. No condition.
-/
import Derived.Test.YtlikagofgciflaaFn
import Derived.Test.YtlikagofgciflaaInf
import Derived.Test.YtlikagofgciflaaCon1
namespace Go.Proofs.Ytlikagofgciflaa
open Go Go.Tc Go.Fn
set_option linter.unusedVariables false
set_option maxHeartbeats 40000000 in
theorem c_spec_l22Show (A : Nat → Prop) (w : World) (hA : ∀ k, A k → k < w.heap.size) (v0_ : Value) (p0 : (List GExpr)) (hp0 : Rd A w v0_ p0) (r : ByteArray) (hr : F_spec_l22Show p0 = some r) :
  Con Try.prog 72 [v0_] A w (fun x_ : Unit => .string r) (fun x_ => []) := by
 refine Con_of (v := fun (r : ByteArray) (x_ : Unit) => .string r) (fs := fun r x_ => []) Try.func72 rfl Try.ntmps72 rfl ((SH.start hA).start_rd rfl hp0) rfl ?_ hr
 unfold F_spec_l22Show
 refine J_sr ?_
 refine JA rfl rfl ?_
 refine JL_nt ?_
 refine J_sr ?_
 refine JL_st wn rfl (st_buildSlice (vs := []) ([] : List ByteArray) Try.underlying63 ti_9 zi_9 rfl rfl rfl (fun w hh => trivial)) (fun b1 => ?_)
 refine JA rfl rfl ?_
 refine JL_nt ?_
 refine J_seq ?_
 refine J_sr ?_
 refine JM rfl rfl ?_
 refine JL_q wn rfl (ex_len_rd 1 Try.underlying52 rfl rfl) ?_
 refine JL_q wn rfl (ex_sub rfl rfl) ?_
 refine JA rfl rfl ?_
 refine JL_nt ?_
 refine J_loop' (S := (List ByteArray) × Int) (G := Value) (F_spec_l22Show_L1 p0) (fun s2 g3 => [(0, v0_), (3, g3), (4, .int .i64 s2.2)]) (fun s2 g3 => [.rd v0_ p0, .ow 9 g3 s2.1]) (([] : List ByteArray), (w64 ((p0.length : Int) - 1))) (.slice (some ⟨b1, 0, none⟩) 0 0) ⟨rfl, rfl, rfl, trivial⟩ [1, 0] rfl rfl (fun s2 g3 => ?_) (fun s2 g3 => ?_)
 ·unfold F_spec_l22Show_L1
  refine J_seq ?_
  refine J_sr ?_
  refine JM rfl rfl ?_
  refine JL_q wn rfl (ex_geq rfl rfl) ?_
  refine JL_nt ?_
  refine J_if rfl (fun h4 => ?_) (fun h4 => ?_)
  ·refine J_skip ?_
   refine N_then ?_
   refine J_seq ?_
   refine J_block ?_
   refine J_sr ?_
   refine JM rfl rfl ?_
   refine JL_q wn rfl (ex_len_ow 1 Try.underlying63 rfl rfl) ?_
   refine JL_q wn rfl (ex_sub rfl rfl) ?_
   refine JA rfl rfl ?_
   refine JL_nt ?_
   refine J_sr ?_
   refine JM rfl rfl ?_
   refine JM rfl rfl ?_
   refine JL_bnd fun y5 hy6 => ?_
   refine JL_st wn rfl (st_index 0 Try.underlying52 ti_67 rfl rfl rfl hy6) (fun q7 => ?_)
   refine JL_st wn rfl (st_field_pt 0 (GExpr.at_Kind _) fi_67_0 rfl rfl rfl) (fun q8 => ?_)
   refine JL_st wn rfl (st_load_pt_o 0 (opens_int _) ti_2 rfl rfl) (fun _ => ?_)
   refine JL_nt ?_
   refine J_block ?_
   refine J_sr ?_
   refine JL_q wn rfl (ex_eql rfl rfl) ?_
   refine JA rfl rfl ?_
   refine JL_nt ?_
   refine J_if rfl (fun h10 => ?_) (fun h10 => ?_)
   ·refine J_region ?_
    refine JM rfl rfl ?_
    refine JL_st wn rfl (st_buildSlice (vs := [.string (⟨#[110]⟩ : ByteArray)]) ([(⟨#[110]⟩ : ByteArray)] : List ByteArray) Try.underlying63 ti_9 zi_9 rfl rfl rfl (fun w hh => ⟨(Rd.mk_str _ _ _), trivial⟩)) (fun b11 => ?_)
    refine JL_bnd fun z12 hz13 => ?_
    refine JL_st wn rfl (st_append 4 Try.underlying63 ti_9 zi_9 rfl bi_9 rfl rfl rfl rfl (fun w hh => hh.src_ow 0 rfl) hz13) (fun v14 => ?_)
    refine JA rfl rfl ?_
    refine JL_nil ?_
    refine N_block ?_
    refine N_block ?_
    refine N_then ?_
    refine J_region ?_
    refine JM rfl rfl ?_
    refine JL_q wn rfl (ex_sub rfl rfl) ?_
    refine JA rfl rfl ?_
    refine JL_nil ?_
    exact N_next' v14 ⟨rfl, rfl, rfl, trivial⟩ [3, 4] rfl rfl
   ·refine J_sr ?_
    refine JL_q wn rfl (ex_eql rfl rfl) ?_
    refine JA rfl rfl ?_
    refine JL_nt ?_
    refine J_if rfl (fun h15 => ?_) (fun h15 => ?_)
    ·refine J_region ?_
     refine JM rfl rfl ?_
     refine JM rfl rfl ?_
     refine JM rfl rfl ?_
     refine JL_bnd fun y16 hy17 => ?_
     refine JL_st wn rfl (st_index 2 Try.underlying52 ti_67 rfl rfl rfl hy17) (fun q18 => ?_)
     refine JL_st wn rfl (st_field_pt 0 (GExpr.at_Variable _) fi_67_1 rfl rfl rfl) (fun q19 => ?_)
     refine JL_st wn rfl (st_load_pt_o 0 (opens_int _) ti_2 rfl rfl) (fun _ => ?_)
     refine JL_bnd fun r21 hr22 => ?_
     refine JL_call wn rfl Try.call71 rfl (Ca_of0 fun w hh => c_spec_l01Dec _ w (fun _ hk => hk.elim) _ _ hr22) (fun _ => ?_)
     refine JL_st wn rfl (st_buildSlice (vs := [.string r21]) ([r21] : List ByteArray) Try.underlying63 ti_9 zi_9 rfl rfl rfl (fun w hh => ⟨(Rd.mk_str _ _ _), trivial⟩)) (fun b23 => ?_)
     refine JL_bnd fun z24 hz25 => ?_
     refine JL_st wn rfl (st_append 6 Try.underlying63 ti_9 zi_9 rfl bi_9 rfl rfl rfl rfl (fun w hh => hh.src_ow 0 rfl) hz25) (fun v26 => ?_)
     refine JA rfl rfl ?_
     refine JL_nil ?_
     refine N_block ?_
     refine N_block ?_
     refine N_then ?_
     refine J_region ?_
     refine JM rfl rfl ?_
     refine JL_q wn rfl (ex_sub rfl rfl) ?_
     refine JA rfl rfl ?_
     refine JL_nil ?_
     exact N_next' v26 ⟨rfl, rfl, rfl, trivial⟩ [5, 6] rfl rfl
    ·refine J_sr ?_
     refine JL_q wn rfl (ex_eql rfl rfl) ?_
     refine JA rfl rfl ?_
     refine JL_nt ?_
     refine J_if rfl (fun h27 => ?_) (fun h27 => ?_)
     ·refine J_sr ?_
      refine JM rfl rfl ?_
      refine JM rfl rfl ?_
      refine JL_bnd fun y28 hy29 => ?_
      refine JL_ow_open (v := g3) 3 rfl hy29 ?_; rintro b30 cap31 rfl
      refine JL_q wn rfl (ex_index_ow 3 Try.underlying63 ti_9 rfl rfl rfl hy29) ?_
      refine JL_st wn rfl (st_load_ow_o 3 (opens_str _) ti_9 rfl rfl hy29) (fun _ => ?_)
      refine JL_bnd fun z33 hz34 => ?_
      refine JL_q wn rfl (ex_add_str rfl rfl hz34) ?_
      refine JA rfl rfl ?_
      refine JL_nt ?_
      refine J_region ?_
      refine JM rfl rfl ?_
      refine JM rfl rfl ?_
      refine JL_bnd fun z35 hz36 => ?_
      refine JL_st wn rfl (st_slice_own 3 Try.underlying63 ti_9 rfl rfl rfl hz36) (fun v37 => ?_)
      refine JM rfl rfl ?_
      refine JL_st wn rfl (st_buildSlice (vs := [.string z33]) ([z33] : List ByteArray) Try.underlying63 ti_9 zi_9 rfl rfl rfl (fun w hh => ⟨(Rd.mk_str _ _ _), trivial⟩)) (fun b38 => ?_)
      refine JL_bnd fun z39 hz40 => ?_
      refine JL_st wn rfl (st_append 4 Try.underlying63 ti_9 zi_9 rfl bi_9 rfl rfl rfl rfl (fun w hh => hh.src_ow 0 rfl) hz40) (fun v41 => ?_)
      refine JA rfl rfl ?_
      refine JL_nil ?_
      refine N_block ?_
      refine N_block ?_
      refine N_then ?_
      refine J_region ?_
      refine JM rfl rfl ?_
      refine JL_q wn rfl (ex_sub rfl rfl) ?_
      refine JA rfl rfl ?_
      refine JL_nil ?_
      exact N_next' v41 ⟨rfl, rfl, rfl, trivial⟩ [3, 4] rfl rfl
     ·refine J_sr ?_
      refine JL_q wn rfl (ex_eql rfl rfl) ?_
      refine JA rfl rfl ?_
      refine JL_nt ?_
      refine J_if rfl (fun h42 => ?_) (fun h42 => ?_)
      ·refine J_sr ?_
       refine JM rfl rfl ?_
       refine JM rfl rfl ?_
       refine JL_bnd fun y43 hy44 => ?_
       refine JL_ow_open (v := g3) 3 rfl hy44 ?_; rintro b45 cap46 rfl
       refine JL_q wn rfl (ex_index_ow 3 Try.underlying63 ti_9 rfl rfl rfl hy44) ?_
       refine JL_st wn rfl (st_load_ow_o 3 (opens_str _) ti_9 rfl rfl hy44) (fun _ => ?_)
       refine JL_bnd fun z48 hz49 => ?_
       refine JL_q wn rfl (ex_add_str rfl rfl hz49) ?_
       refine JA rfl rfl ?_
       refine JL_nt ?_
       refine J_region ?_
       refine JM rfl rfl ?_
       refine JM rfl rfl ?_
       refine JL_bnd fun z50 hz51 => ?_
       refine JL_st wn rfl (st_slice_own 3 Try.underlying63 ti_9 rfl rfl rfl hz51) (fun v52 => ?_)
       refine JM rfl rfl ?_
       refine JL_st wn rfl (st_buildSlice (vs := [.string z48]) ([z48] : List ByteArray) Try.underlying63 ti_9 zi_9 rfl rfl rfl (fun w hh => ⟨(Rd.mk_str _ _ _), trivial⟩)) (fun b53 => ?_)
       refine JL_bnd fun z54 hz55 => ?_
       refine JL_st wn rfl (st_append 4 Try.underlying63 ti_9 zi_9 rfl bi_9 rfl rfl rfl rfl (fun w hh => hh.src_ow 0 rfl) hz55) (fun v56 => ?_)
       refine JA rfl rfl ?_
       refine JL_nil ?_
       refine N_block ?_
       refine N_block ?_
       refine N_then ?_
       refine J_region ?_
       refine JM rfl rfl ?_
       refine JL_q wn rfl (ex_sub rfl rfl) ?_
       refine JA rfl rfl ?_
       refine JL_nil ?_
       exact N_next' v56 ⟨rfl, rfl, rfl, trivial⟩ [3, 4] rfl rfl
      ·refine J_sr ?_
       refine JL_q wn rfl (ex_eql rfl rfl) ?_
       refine JA rfl rfl ?_
       refine JL_nt ?_
       refine J_if rfl (fun h57 => ?_) (fun h57 => ?_)
       ·refine J_seq ?_
        refine J_draw [3] (by kernel_rfl) ?_
        refine JP_take (i := 0) [0, 1, 2] [3] rfl (by kernel_rfl) (by kernel_rfl) (by kernel_rfl) rfl rfl wn rfl (ex_move rfl) ?_
        refine JP_take (i := 1) [0, 1, 2] [3] rfl (by kernel_rfl) (by kernel_rfl) (by kernel_rfl) rfl rfl wn rfl (ex_move rfl) ?_
        refine JP_bnd fun y58 hy59 => ?_
        refine JP_ow_open (v := g3) 3 rfl hy59 ?_; rintro b60 cap61 rfl
        refine JP_take (i := 2) [0, 1, 2] [3] rfl (by kernel_rfl) (by kernel_rfl) (by kernel_rfl) rfl rfl wn rfl (ex_index_own Try.underlying63 ti_9 rfl rfl hy59 (by first | rfl | simp)) ?_
        refine JP_take (i := 6) [0, 1, 2] [3] rfl (by kernel_rfl) (by kernel_rfl) (by kernel_rfl) rfl rfl wn rfl (ex_move rfl) ?_
        refine JP_take (i := 7) [0, 1, 2] [3] rfl (by kernel_rfl) (by kernel_rfl) (by kernel_rfl) rfl rfl wn rfl (ex_move rfl) ?_
        refine JP_take (i := 8) [0, 1, 2] [3] rfl (by kernel_rfl) (by kernel_rfl) (by kernel_rfl) rfl rfl wn rfl (ex_sub rfl rfl) ?_
        refine JP_bnd fun y62 hy63 => ?_
        refine JP_take (i := 9) [0, 1, 2] [3] rfl (by kernel_rfl) (by kernel_rfl) (by kernel_rfl) rfl rfl wn rfl (ex_index_own Try.underlying63 ti_9 rfl rfl hy63 (by first | rfl | simp)) ?_
        refine JP_go [0, 1, 2] [3] rfl rfl rfl (fun w65 h1_66 hp64 => ?_)
        refine JD_two (i := 3) (j := 10) (by kernel_rfl) ?_ ?_
        ·refine JO_st rfl wn rfl (st_load_ow_o 3 (opens_str _) ti_9 rfl rfl hy59) (fun _ hk => nomatch hk) (fun _ => ?_)
         refine JD_bnd fun z68 hz69 => ?_
         refine JD_take (i := 4) hp64 rfl (by kernel_rfl) (by kernel_rfl) (by kernel_rfl) wn rfl (ex_add_str rfl rfl hz69) ?_
         refine JD_bnd fun z70 hz71 => ?_
         refine JD_take (i := 5) hp64 rfl (by kernel_rfl) (by kernel_rfl) (by kernel_rfl) wn rfl (ex_add_str rfl rfl hz71) ?_
         refine JD_one (i := 10) (by kernel_rfl) ?_
         refine JO_st rfl wn rfl (st_load_ow_o 3 (opens_str _) ti_9 rfl rfl hy63) (fun _ hk => nomatch hk) (fun _ => ?_)
         refine JD_bnd fun z73 hz74 => ?_
         refine JD_take (i := 11) hp64 rfl (by kernel_rfl) (by kernel_rfl) (by kernel_rfl) wn rfl (ex_add_str rfl rfl hz74) ?_
         refine JD_bnd fun z75 hz76 => ?_
         refine JD_take (i := 12) hp64 rfl (by kernel_rfl) (by kernel_rfl) (by kernel_rfl) wn rfl (ex_add_str rfl rfl hz76) ?_
         refine JD_take (i := 13) hp64 rfl (by kernel_rfl) (by kernel_rfl) (by kernel_rfl) wn rfl (ex_assign rfl) ?_
         refine JD_done (by kernel_rfl) ?_
         refine N_then ?_
         refine J_region ?_
         refine JM rfl rfl ?_
         refine JM rfl rfl ?_
         refine JL_q wn rfl (ex_sub rfl rfl) ?_
         refine JL_bnd fun z77 hz78 => ?_
         refine JL_st wn rfl (st_slice_own 3 Try.underlying63 ti_9 rfl rfl rfl hz78) (fun v79 => ?_)
         refine JM rfl rfl ?_
         refine JL_st wn rfl (st_buildSlice (vs := [.string z75]) ([z75] : List ByteArray) Try.underlying63 ti_9 zi_9 rfl rfl rfl (fun w hh => ⟨(Rd.mk_str _ _ _), trivial⟩)) (fun b80 => ?_)
         refine JL_bnd fun z81 hz82 => ?_
         refine JL_st wn rfl (st_append 4 Try.underlying63 ti_9 zi_9 rfl bi_9 rfl rfl rfl rfl (fun w hh => hh.src_ow 0 rfl) hz82) (fun v83 => ?_)
         refine JA rfl rfl ?_
         refine JL_nil ?_
         refine N_block ?_
         refine N_block ?_
         refine N_then ?_
         refine J_region ?_
         refine JM rfl rfl ?_
         refine JL_q wn rfl (ex_sub rfl rfl) ?_
         refine JA rfl rfl ?_
         refine JL_nil ?_
         exact N_next' v83 ⟨rfl, rfl, rfl, trivial⟩ [3, 4] rfl rfl
        ·refine JO_st rfl wn rfl (st_load_ow_o 3 (opens_str _) ti_9 rfl rfl hy63) (fun _ hk => nomatch hk) (fun _ => ?_)
         refine JD_one (i := 3) (by kernel_rfl) ?_
         refine JO_st rfl wn rfl (st_load_ow_o 3 (opens_str _) ti_9 rfl rfl hy59) (fun _ hk => nomatch hk) (fun _ => ?_)
         refine JD_bnd fun z86 hz87 => ?_
         refine JD_take (i := 4) hp64 rfl (by kernel_rfl) (by kernel_rfl) (by kernel_rfl) wn rfl (ex_add_str rfl rfl hz87) ?_
         refine JD_bnd fun z88 hz89 => ?_
         refine JD_take (i := 5) hp64 rfl (by kernel_rfl) (by kernel_rfl) (by kernel_rfl) wn rfl (ex_add_str rfl rfl hz89) ?_
         refine JD_bnd fun z90 hz91 => ?_
         refine JD_take (i := 11) hp64 rfl (by kernel_rfl) (by kernel_rfl) (by kernel_rfl) wn rfl (ex_add_str rfl rfl hz91) ?_
         refine JD_bnd fun z92 hz93 => ?_
         refine JD_take (i := 12) hp64 rfl (by kernel_rfl) (by kernel_rfl) (by kernel_rfl) wn rfl (ex_add_str rfl rfl hz93) ?_
         refine JD_take (i := 13) hp64 rfl (by kernel_rfl) (by kernel_rfl) (by kernel_rfl) wn rfl (ex_assign rfl) ?_
         refine JD_done (by kernel_rfl) ?_
         refine N_then ?_
         refine J_region ?_
         refine JM rfl rfl ?_
         refine JM rfl rfl ?_
         refine JL_q wn rfl (ex_sub rfl rfl) ?_
         refine JL_bnd fun z94 hz95 => ?_
         refine JL_st wn rfl (st_slice_own 3 Try.underlying63 ti_9 rfl rfl rfl hz95) (fun v96 => ?_)
         refine JM rfl rfl ?_
         refine JL_st wn rfl (st_buildSlice (vs := [.string z92]) ([z92] : List ByteArray) Try.underlying63 ti_9 zi_9 rfl rfl rfl (fun w hh => ⟨(Rd.mk_str _ _ _), trivial⟩)) (fun b97 => ?_)
         refine JL_bnd fun z98 hz99 => ?_
         refine JL_st wn rfl (st_append 4 Try.underlying63 ti_9 zi_9 rfl bi_9 rfl rfl rfl rfl (fun w hh => hh.src_ow 0 rfl) hz99) (fun v100 => ?_)
         refine JA rfl rfl ?_
         refine JL_nil ?_
         refine N_block ?_
         refine N_block ?_
         refine N_then ?_
         refine J_region ?_
         refine JM rfl rfl ?_
         refine JL_q wn rfl (ex_sub rfl rfl) ?_
         refine JA rfl rfl ?_
         refine JL_nil ?_
         exact N_next' v100 ⟨rfl, rfl, rfl, trivial⟩ [3, 4] rfl rfl
       ·refine J_sr ?_
        refine JL_q wn rfl (ex_eql rfl rfl) ?_
        refine JA rfl rfl ?_
        refine JL_nt ?_
        refine J_if rfl (fun h101 => ?_) (fun h101 => ?_)
        ·refine J_seq ?_
         refine J_draw [3] (by kernel_rfl) ?_
         refine JP_take (i := 0) [0, 1, 2] [3] rfl (by kernel_rfl) (by kernel_rfl) (by kernel_rfl) rfl rfl wn rfl (ex_move rfl) ?_
         refine JP_take (i := 1) [0, 1, 2] [3] rfl (by kernel_rfl) (by kernel_rfl) (by kernel_rfl) rfl rfl wn rfl (ex_move rfl) ?_
         refine JP_bnd fun y102 hy103 => ?_
         refine JP_ow_open (v := g3) 3 rfl hy103 ?_; rintro b104 cap105 rfl
         refine JP_take (i := 2) [0, 1, 2] [3] rfl (by kernel_rfl) (by kernel_rfl) (by kernel_rfl) rfl rfl wn rfl (ex_index_own Try.underlying63 ti_9 rfl rfl hy103 (by first | rfl | simp)) ?_
         refine JP_take (i := 6) [0, 1, 2] [3] rfl (by kernel_rfl) (by kernel_rfl) (by kernel_rfl) rfl rfl wn rfl (ex_move rfl) ?_
         refine JP_take (i := 7) [0, 1, 2] [3] rfl (by kernel_rfl) (by kernel_rfl) (by kernel_rfl) rfl rfl wn rfl (ex_move rfl) ?_
         refine JP_take (i := 8) [0, 1, 2] [3] rfl (by kernel_rfl) (by kernel_rfl) (by kernel_rfl) rfl rfl wn rfl (ex_sub rfl rfl) ?_
         refine JP_bnd fun y106 hy107 => ?_
         refine JP_take (i := 9) [0, 1, 2] [3] rfl (by kernel_rfl) (by kernel_rfl) (by kernel_rfl) rfl rfl wn rfl (ex_index_own Try.underlying63 ti_9 rfl rfl hy107 (by first | rfl | simp)) ?_
         refine JP_go [0, 1, 2] [3] rfl rfl rfl (fun w109 h1_110 hp108 => ?_)
         refine JD_two (i := 3) (j := 10) (by kernel_rfl) ?_ ?_
         ·refine JO_st rfl wn rfl (st_load_ow_o 3 (opens_str _) ti_9 rfl rfl hy103) (fun _ hk => nomatch hk) (fun _ => ?_)
          refine JD_bnd fun z112 hz113 => ?_
          refine JD_take (i := 4) hp108 rfl (by kernel_rfl) (by kernel_rfl) (by kernel_rfl) wn rfl (ex_add_str rfl rfl hz113) ?_
          refine JD_bnd fun z114 hz115 => ?_
          refine JD_take (i := 5) hp108 rfl (by kernel_rfl) (by kernel_rfl) (by kernel_rfl) wn rfl (ex_add_str rfl rfl hz115) ?_
          refine JD_one (i := 10) (by kernel_rfl) ?_
          refine JO_st rfl wn rfl (st_load_ow_o 3 (opens_str _) ti_9 rfl rfl hy107) (fun _ hk => nomatch hk) (fun _ => ?_)
          refine JD_bnd fun z117 hz118 => ?_
          refine JD_take (i := 11) hp108 rfl (by kernel_rfl) (by kernel_rfl) (by kernel_rfl) wn rfl (ex_add_str rfl rfl hz118) ?_
          refine JD_bnd fun z119 hz120 => ?_
          refine JD_take (i := 12) hp108 rfl (by kernel_rfl) (by kernel_rfl) (by kernel_rfl) wn rfl (ex_add_str rfl rfl hz120) ?_
          refine JD_take (i := 13) hp108 rfl (by kernel_rfl) (by kernel_rfl) (by kernel_rfl) wn rfl (ex_assign rfl) ?_
          refine JD_done (by kernel_rfl) ?_
          refine N_then ?_
          refine J_region ?_
          refine JM rfl rfl ?_
          refine JM rfl rfl ?_
          refine JL_q wn rfl (ex_sub rfl rfl) ?_
          refine JL_bnd fun z121 hz122 => ?_
          refine JL_st wn rfl (st_slice_own 3 Try.underlying63 ti_9 rfl rfl rfl hz122) (fun v123 => ?_)
          refine JM rfl rfl ?_
          refine JL_st wn rfl (st_buildSlice (vs := [.string z119]) ([z119] : List ByteArray) Try.underlying63 ti_9 zi_9 rfl rfl rfl (fun w hh => ⟨(Rd.mk_str _ _ _), trivial⟩)) (fun b124 => ?_)
          refine JL_bnd fun z125 hz126 => ?_
          refine JL_st wn rfl (st_append 4 Try.underlying63 ti_9 zi_9 rfl bi_9 rfl rfl rfl rfl (fun w hh => hh.src_ow 0 rfl) hz126) (fun v127 => ?_)
          refine JA rfl rfl ?_
          refine JL_nil ?_
          refine N_block ?_
          refine N_block ?_
          refine N_then ?_
          refine J_region ?_
          refine JM rfl rfl ?_
          refine JL_q wn rfl (ex_sub rfl rfl) ?_
          refine JA rfl rfl ?_
          refine JL_nil ?_
          exact N_next' v127 ⟨rfl, rfl, rfl, trivial⟩ [3, 4] rfl rfl
         ·refine JO_st rfl wn rfl (st_load_ow_o 3 (opens_str _) ti_9 rfl rfl hy107) (fun _ hk => nomatch hk) (fun _ => ?_)
          refine JD_one (i := 3) (by kernel_rfl) ?_
          refine JO_st rfl wn rfl (st_load_ow_o 3 (opens_str _) ti_9 rfl rfl hy103) (fun _ hk => nomatch hk) (fun _ => ?_)
          refine JD_bnd fun z130 hz131 => ?_
          refine JD_take (i := 4) hp108 rfl (by kernel_rfl) (by kernel_rfl) (by kernel_rfl) wn rfl (ex_add_str rfl rfl hz131) ?_
          refine JD_bnd fun z132 hz133 => ?_
          refine JD_take (i := 5) hp108 rfl (by kernel_rfl) (by kernel_rfl) (by kernel_rfl) wn rfl (ex_add_str rfl rfl hz133) ?_
          refine JD_bnd fun z134 hz135 => ?_
          refine JD_take (i := 11) hp108 rfl (by kernel_rfl) (by kernel_rfl) (by kernel_rfl) wn rfl (ex_add_str rfl rfl hz135) ?_
          refine JD_bnd fun z136 hz137 => ?_
          refine JD_take (i := 12) hp108 rfl (by kernel_rfl) (by kernel_rfl) (by kernel_rfl) wn rfl (ex_add_str rfl rfl hz137) ?_
          refine JD_take (i := 13) hp108 rfl (by kernel_rfl) (by kernel_rfl) (by kernel_rfl) wn rfl (ex_assign rfl) ?_
          refine JD_done (by kernel_rfl) ?_
          refine N_then ?_
          refine J_region ?_
          refine JM rfl rfl ?_
          refine JM rfl rfl ?_
          refine JL_q wn rfl (ex_sub rfl rfl) ?_
          refine JL_bnd fun z138 hz139 => ?_
          refine JL_st wn rfl (st_slice_own 3 Try.underlying63 ti_9 rfl rfl rfl hz139) (fun v140 => ?_)
          refine JM rfl rfl ?_
          refine JL_st wn rfl (st_buildSlice (vs := [.string z136]) ([z136] : List ByteArray) Try.underlying63 ti_9 zi_9 rfl rfl rfl (fun w hh => ⟨(Rd.mk_str _ _ _), trivial⟩)) (fun b141 => ?_)
          refine JL_bnd fun z142 hz143 => ?_
          refine JL_st wn rfl (st_append 4 Try.underlying63 ti_9 zi_9 rfl bi_9 rfl rfl rfl rfl (fun w hh => hh.src_ow 0 rfl) hz143) (fun v144 => ?_)
          refine JA rfl rfl ?_
          refine JL_nil ?_
          refine N_block ?_
          refine N_block ?_
          refine N_then ?_
          refine J_region ?_
          refine JM rfl rfl ?_
          refine JL_q wn rfl (ex_sub rfl rfl) ?_
          refine JA rfl rfl ?_
          refine JL_nil ?_
          exact N_next' v144 ⟨rfl, rfl, rfl, trivial⟩ [3, 4] rfl rfl
        ·refine J_skip ?_
         refine N_block ?_
         refine N_block ?_
         refine N_then ?_
         refine J_region ?_
         refine JM rfl rfl ?_
         refine JL_q wn rfl (ex_sub rfl rfl) ?_
         refine JA rfl rfl ?_
         refine JL_nil ?_
         exact N_next' g3 ⟨rfl, rfl, rfl, trivial⟩ [2, 3] rfl rfl
  ·refine J_exit ?_
   refine N_then_exit ?_
   exact N_break' g3 ⟨rfl, rfl, rfl, trivial⟩ [0, 1] rfl rfl
 ·refine N_then ?_
  refine J_sr ?_
  refine JM rfl rfl ?_
  refine JL_bnd fun y145 hy146 => ?_
  refine JL_ow_open (v := g3) 1 rfl hy146 ?_; rintro b147 cap148 rfl
  refine JL_q wn rfl (ex_index_ow 1 Try.underlying63 ti_9 rfl rfl rfl hy146) ?_
  refine JL_st wn rfl (st_load_ow_o 1 (opens_str _) ti_9 rfl rfl hy146) (fun _ => ?_)
  refine JA rfl rfl ?_
  refine JL_nt ?_
  refine J_ret ?_
  exact N_ret1 rfl (rv_tmp rfl) (fun w hh => ⟨(), rfl, hh.sel [] rfl⟩)
set_option maxHeartbeats 40000000 in
theorem c_spec_l22Text_ind : ∀ (k_ : Nat) (A : Nat → Prop) (w : World) (hA : ∀ k, A k → k < w.heap.size) (v0_ : Value) (p0 : (List GCommand)) (hp0 : Rd A w v0_ p0) (r : ByteArray) (hr : fixN (fun (rec_ : (List GCommand) → Option (ByteArray)) (a_ : (List GCommand)) => F_spec_l22Text_step (fun p0 => rec_ p0) a_) k_ p0 = some r),
  Con Try.prog 50 [v0_] A w (fun x_ : Unit => .string r) (fun x_ => []) := by
 intro k_
 induction k_ with
 | zero => intro A w hA v0_ p0 hp0 r hr; cases hr
 | succ k_ ih_ =>
 intro A w hA v0_ p0 hp0 r hr
 replace hr : F_spec_l22Text_step (fun p0 => fixN (fun (rec_ : (List GCommand) → Option (ByteArray)) (a_ : (List GCommand)) => F_spec_l22Text_step (fun p0 => rec_ p0) a_) k_ p0) p0 = some r := hr
 refine Con_of (v := fun (r : ByteArray) (x_ : Unit) => .string r) (fs := fun r x_ => []) Try.func50 rfl Try.ntmps50 rfl ((SH.start hA).start_rd rfl hp0) rfl ?_ hr
 unfold F_spec_l22Text_step
 refine J_sr ?_
 refine JA rfl rfl ?_
 refine JL_nt ?_
 refine J_sr ?_
 refine JA rfl rfl ?_
 refine JL_nt ?_
 refine J_seq ?_
 refine J_sr ?_
 refine JA rfl rfl ?_
 refine JL_nt ?_
 refine J_loop' (S := ByteArray × Int) (G := Unit) (F_spec_l22Text_L1 p0 (fun p0 => fixN (fun (rec_ : (List GCommand) → Option (ByteArray)) (a_ : (List GCommand)) => F_spec_l22Text_step (fun p0 => rec_ p0) a_) k_ p0)) (fun s1 _ => [(0, v0_), (3, .string s1.1), (4, .int .i64 s1.2)]) (fun s1 _ => [.rd v0_ p0]) ((⟨#[]⟩ : ByteArray), 0) () ⟨rfl, rfl, rfl, trivial⟩ [0] rfl rfl (fun s1 g2 => ?_) (fun s1 g2 => ?_)
 ·unfold F_spec_l22Text_L1
  refine J_seq ?_
  refine J_sr ?_
  refine JM rfl rfl ?_
  refine JM rfl rfl ?_
  refine JL_q wn rfl (ex_len_rd 0 Try.underlying24 rfl rfl) ?_
  refine JL_q wn rfl (ex_lss rfl rfl) ?_
  refine JL_nt ?_
  refine J_if rfl (fun h3 => ?_) (fun h3 => ?_)
  ·refine J_skip ?_
   refine N_then ?_
   refine J_seq ?_
   refine J_block ?_
   refine J_seq ?_
   refine J_cut' (S' := ByteArray) (G' := Unit) (fun s4 _ => [(0, v0_), (3, .string s4), (4, .int .i64 s1.2)]) (fun s4 _ => [.rd v0_ p0]) ?_ (fun s4 g5 => ?_)
   ·refine J_sr ?_
    refine JM rfl rfl ?_
    refine JL_q wn rfl (ex_gtr rfl rfl) ?_
    refine JL_nt ?_
    refine J_if rfl (fun h6 => ?_) (fun h6 => ?_)
    ·refine J_region ?_
     refine JM rfl rfl ?_
     refine JL_bnd fun z7 hz8 => ?_
     refine JL_q wn rfl (ex_add_str rfl rfl hz8) ?_
     refine JA rfl rfl ?_
     refine JL_nil ?_
     exact N_meet' () ⟨rfl, rfl, rfl, trivial⟩ [0] rfl rfl
    ·refine J_skip ?_
     exact N_meet' () ⟨rfl, rfl, rfl, trivial⟩ [0] rfl rfl
   ·refine N_then ?_
    refine J_seq ?_
    refine J_sr ?_
    refine JM rfl rfl ?_
    refine JM rfl rfl ?_
    refine JL_bnd fun y9 hy10 => ?_
    refine JL_st wn rfl (st_index 0 Try.underlying24 ti_54 rfl rfl rfl hy10) (fun q11 => ?_)
    refine JL_st wn rfl (st_field_pt 0 (GCommand.at_Kind _) fi_54_0 rfl rfl rfl) (fun q12 => ?_)
    refine JL_st wn rfl (st_load_pt_o 0 (opens_int _) ti_2 rfl rfl) (fun _ => ?_)
    refine JL_q wn rfl (ex_eql rfl rfl) ?_
    refine JL_nt ?_
    refine J_if rfl (fun h14 => ?_) (fun h14 => ?_)
    ·refine J_seq ?_
     refine J_draw [] (by kernel_rfl) ?_
     refine JP_take (i := 0) [0, 1, 2] [] rfl (by kernel_rfl) (by kernel_rfl) (by kernel_rfl) rfl rfl wn rfl (ex_move rfl) ?_
     refine JP_take (i := 1) [0, 1, 2] [] rfl (by kernel_rfl) (by kernel_rfl) (by kernel_rfl) rfl rfl wn rfl (ex_move rfl) ?_
     refine JP_take (i := 2) [0, 1, 2] [] rfl (by kernel_rfl) (by kernel_rfl) (by kernel_rfl) rfl rfl wn rfl (ex_move rfl) ?_
     refine JP_bnd fun y15 hy16 => ?_
     refine JP_sq (i := 3) [] rfl (by kernel_rfl) (by kernel_rfl) (by kernel_rfl) rfl wn rfl (sq_index 2 Try.underlying24 ti_54 rfl rfl rfl hy16) (fun q17 => ?_)
     refine JP_sq (i := 4) [] rfl (by kernel_rfl) (by kernel_rfl) (by kernel_rfl) rfl wn rfl (sq_field_pt 0 (GCommand.at_Variable _) fi_54_1 rfl rfl rfl) (fun q18 => ?_)
     refine JP_sq (i := 5) [] rfl (by kernel_rfl) (by kernel_rfl) (by kernel_rfl) rfl wn rfl (sq_load_pt_o 0 (opens_int _) ti_2 rfl rfl) (fun _ => ?_)
     refine JP_take (i := 8) [0, 1, 2, 3, 4] [] rfl (by kernel_rfl) (by kernel_rfl) (by kernel_rfl) rfl rfl wn rfl (ex_move rfl) ?_
     refine JP_take (i := 9) [0, 1, 2, 3, 4] [] rfl (by kernel_rfl) (by kernel_rfl) (by kernel_rfl) rfl rfl wn rfl (ex_move rfl) ?_
     refine JP_bnd fun y20 hy21 => ?_
     refine JP_sq (i := 10) [] rfl (by kernel_rfl) (by kernel_rfl) (by kernel_rfl) rfl wn rfl (sq_index 4 Try.underlying24 ti_54 rfl rfl rfl hy21) (fun q22 => ?_)
     refine JP_sq (i := 11) [] rfl (by kernel_rfl) (by kernel_rfl) (by kernel_rfl) rfl wn rfl (sq_field_pt 0 (GCommand.at_Value_ _) fi_54_3 rfl rfl rfl) (fun q23 => ?_)
     refine JP_sq (i := 12) [] rfl (by kernel_rfl) (by kernel_rfl) (by kernel_rfl) rfl wn rfl (sq_load_pt_o 0 (opens_sl _) ti_52 rfl rfl) (fun v24 => ?_)
     refine JP_go [0, 1, 2, 3, 4, 5, 6, 7] [] rfl rfl rfl (fun w26 h1_27 hp25 => ?_)
     refine JD_bnd fun r28 hr29 => ?_
     refine JD_one (i := 6) (by kernel_rfl) ?_
     refine JO_call rfl wn rfl Try.call71 rfl (Ca_of0 fun w hh => c_spec_l01Dec _ w (fun _ hk => hk.elim) _ _ hr29) (fun _ => ?_)
     refine JD_bnd fun z30 hz31 => ?_
     refine JD_take (i := 7) hp25 rfl (by kernel_rfl) (by kernel_rfl) (by kernel_rfl) wn rfl (ex_add_str rfl rfl hz31) ?_
     refine JD_bnd fun r32 hr33 => ?_
     refine JD_one (i := 13) (by kernel_rfl) ?_
     refine JO_call rfl wn rfl Try.call72 rfl (Ca_of0 fun w hh => c_spec_l22Show _ w (fun _ hk => hk.elim) _ _ (hh.rd0 0 rfl) _ hr33) (fun _ => ?_)
     refine JD_bnd fun z34 hz35 => ?_
     refine JD_take (i := 14) hp25 rfl (by kernel_rfl) (by kernel_rfl) (by kernel_rfl) wn rfl (ex_add_str rfl rfl hz35) ?_
     refine JD_bnd fun z36 hz37 => ?_
     refine JD_take (i := 15) hp25 rfl (by kernel_rfl) (by kernel_rfl) (by kernel_rfl) wn rfl (ex_add_str rfl rfl hz37) ?_
     refine JD_take (i := 16) hp25 rfl (by kernel_rfl) (by kernel_rfl) (by kernel_rfl) wn rfl (ex_assign rfl) ?_
     refine JD_done (by kernel_rfl) ?_
     refine N_then ?_
     refine J_exit ?_
     refine N_then_exit ?_
     refine N_block_exit ?_
     refine N_then ?_
     refine J_region ?_
     refine JM rfl rfl ?_
     refine JL_q wn rfl (ex_add rfl rfl) ?_
     refine JA rfl rfl ?_
     refine JL_nil ?_
     exact N_next' () ⟨rfl, rfl, rfl, trivial⟩ [7] rfl rfl
    ·refine J_skip ?_
     refine N_then ?_
     refine J_sr ?_
     refine JM rfl rfl ?_
     refine JL_q wn rfl (ex_add rfl rfl) ?_
     refine JM rfl rfl ?_
     refine JM rfl rfl ?_
     refine JL_bnd fun y38 hy39 => ?_
     refine JL_st wn rfl (st_index 2 Try.underlying24 ti_54 rfl rfl rfl hy39) (fun q40 => ?_)
     refine JL_st wn rfl (st_field_pt 0 (GCommand.at_Length _) fi_54_2 rfl rfl rfl) (fun q41 => ?_)
     refine JL_st wn rfl (st_load_pt_o 0 (opens_int _) ti_2 rfl rfl) (fun _ => ?_)
     refine JL_q wn rfl (ex_add rfl rfl) ?_
     refine JA rfl rfl ?_
     refine JL_nt ?_
     refine J_seq ?_
     refine J_draw [] (by kernel_rfl) ?_
     refine JP_take (i := 0) [0, 1, 2, 3, 4] [] rfl (by kernel_rfl) (by kernel_rfl) (by kernel_rfl) rfl rfl wn rfl (ex_move rfl) ?_
     refine JP_take (i := 1) [0, 1, 2, 3, 4] [] rfl (by kernel_rfl) (by kernel_rfl) (by kernel_rfl) rfl rfl wn rfl (ex_move rfl) ?_
     refine JP_take (i := 2) [0, 1, 2, 3, 4] [] rfl (by kernel_rfl) (by kernel_rfl) (by kernel_rfl) rfl rfl wn rfl (ex_move rfl) ?_
     refine JP_bnd fun y43 hy44 => ?_
     refine JP_sq (i := 3) [] rfl (by kernel_rfl) (by kernel_rfl) (by kernel_rfl) rfl wn rfl (sq_index 4 Try.underlying24 ti_54 rfl rfl rfl hy44) (fun q45 => ?_)
     refine JP_sq (i := 4) [] rfl (by kernel_rfl) (by kernel_rfl) (by kernel_rfl) rfl wn rfl (sq_field_pt 0 (GCommand.at_Value_ _) fi_54_3 rfl rfl rfl) (fun q46 => ?_)
     refine JP_sq (i := 5) [] rfl (by kernel_rfl) (by kernel_rfl) (by kernel_rfl) rfl wn rfl (sq_load_pt_o 0 (opens_sl _) ti_52 rfl rfl) (fun v47 => ?_)
     refine JP_take (i := 9) [0, 1, 2, 3, 4, 5, 6, 7] [] rfl (by kernel_rfl) (by kernel_rfl) (by kernel_rfl) rfl rfl wn rfl (ex_move rfl) ?_
     refine JP_take (i := 10) [0, 1, 2, 3, 4, 5, 6, 7] [] rfl (by kernel_rfl) (by kernel_rfl) (by kernel_rfl) rfl rfl wn rfl (ex_move rfl) ?_
     refine JP_take (i := 11) [0, 1, 2, 3, 4, 5, 6, 7] [] rfl (by kernel_rfl) (by kernel_rfl) (by kernel_rfl) rfl rfl wn rfl (ex_add rfl rfl) ?_
     refine JP_take (i := 12) [0, 1, 2, 3, 4, 5, 6, 7] [] rfl (by kernel_rfl) (by kernel_rfl) (by kernel_rfl) rfl rfl wn rfl (ex_move rfl) ?_
     refine JP_bnd fun z48 hz49 => ?_
     refine JP_sq (i := 13) [] rfl (by kernel_rfl) (by kernel_rfl) (by kernel_rfl) rfl wn rfl (sq_slice 7 Try.underlying24 ti_54 rfl rfl rfl rfl hz49) (fun v50 => ?_)
     refine JP_go [0, 1, 2, 3, 4, 5, 6, 7, 8] [] rfl rfl rfl (fun w52 h1_53 hp51 => ?_)
     refine JD_bnd fun r54 hr55 => ?_
     refine JD_one (i := 6) (by kernel_rfl) ?_
     refine JO_call rfl wn rfl Try.call72 rfl (Ca_of0 fun w hh => c_spec_l22Show _ w (fun _ hk => hk.elim) _ _ (hh.rd0 1 rfl) _ hr55) (fun _ => ?_)
     refine JD_bnd fun z56 hz57 => ?_
     refine JD_take (i := 7) hp51 rfl (by kernel_rfl) (by kernel_rfl) (by kernel_rfl) wn rfl (ex_add_str rfl rfl hz57) ?_
     refine JD_bnd fun z58 hz59 => ?_
     refine JD_take (i := 8) hp51 rfl (by kernel_rfl) (by kernel_rfl) (by kernel_rfl) wn rfl (ex_add_str rfl rfl hz59) ?_
     refine JD_bnd fun r60 hr61 => ?_
     refine JD_one (i := 14) (by kernel_rfl) ?_
     refine JO_call rfl wn rfl Try.call50 rfl (Ca_of0 fun w hh => ih_ _ w (fun _ hk => hk.elim) _ _ (hh.rd0 0 rfl) _ hr61) (fun _ => ?_)
     refine JD_bnd fun z62 hz63 => ?_
     refine JD_take (i := 15) hp51 rfl (by kernel_rfl) (by kernel_rfl) (by kernel_rfl) wn rfl (ex_add_str rfl rfl hz63) ?_
     refine JD_bnd fun z64 hz65 => ?_
     refine JD_take (i := 16) hp51 rfl (by kernel_rfl) (by kernel_rfl) (by kernel_rfl) wn rfl (ex_add_str rfl rfl hz65) ?_
     refine JD_bnd fun z66 hz67 => ?_
     refine JD_take (i := 17) hp51 rfl (by kernel_rfl) (by kernel_rfl) (by kernel_rfl) wn rfl (ex_add_str rfl rfl hz67) ?_
     refine JD_take (i := 18) hp51 rfl (by kernel_rfl) (by kernel_rfl) (by kernel_rfl) wn rfl (ex_assign rfl) ?_
     refine JD_done (by kernel_rfl) ?_
     refine N_then ?_
     refine J_region ?_
     refine JM rfl rfl ?_
     refine JL_q wn rfl (ex_sub rfl rfl) ?_
     refine JA rfl rfl ?_
     refine JL_nil ?_
     refine N_block ?_
     refine N_then ?_
     refine J_region ?_
     refine JM rfl rfl ?_
     refine JL_q wn rfl (ex_add rfl rfl) ?_
     refine JA rfl rfl ?_
     refine JL_nil ?_
     exact N_next' () ⟨rfl, rfl, rfl, trivial⟩ [8] rfl rfl
  ·refine J_exit ?_
   refine N_then_exit ?_
   exact N_break' () ⟨rfl, rfl, rfl, trivial⟩ [0] rfl rfl
 ·refine N_then ?_
  refine J_sr ?_
  refine JM rfl rfl ?_
  refine JA rfl rfl ?_
  refine JL_nt ?_
  refine J_ret ?_
  exact N_ret1 rfl (rv_tmp rfl) (fun w hh => ⟨(), rfl, hh.sel [] rfl⟩)
theorem c_spec_l22Text (A : Nat → Prop) (w : World) (hA : ∀ k, A k → k < w.heap.size) (v0_ : Value) (p0 : (List GCommand)) (hp0 : Rd A w v0_ p0) (r : ByteArray) (hr : F_spec_l22Text p0 = some r) :
  Con Try.prog 50 [v0_] A w (fun x_ : Unit => .string r) (fun x_ => []) := by
 obtain ⟨k_, hk_⟩ := fixR_some hr
 exact c_spec_l22Text_ind k_ A w hA v0_ p0 hp0 r hk_
set_option maxHeartbeats 40000000 in
theorem c_spec_ReadWhile (A : Nat → Prop) (w : World) (hA : ∀ k, A k → k < w.heap.size) (p0 : ByteArray) (r : (List GCommand) × Bool) (hr : F_spec_ReadWhile p0 = some r) :
  Con Try.prog 27 [.string p0] A w (fun x_ : Value × List Nat => .tuple #[x_.1, .bool r.2]) (fun x_ => [.od 54 x_.1 r.1 x_.2]) := by
 refine Con_of (v := fun (r : (List GCommand) × Bool) (x_ : Value × List Nat) => .tuple #[x_.1, .bool r.2]) (fs := fun r x_ => [.od 54 x_.1 r.1 x_.2]) Try.func27 rfl Try.ntmps27 rfl (SH.start hA) rfl ?_ hr
 unfold F_spec_ReadWhile
 refine J_sr ?_
 refine JA rfl rfl ?_
 refine JA rfl rfl ?_
 refine JL_nt ?_
 refine J_sr ?_
 refine JM rfl rfl ?_
 refine JL_bnd fun r1 hr2 => ?_
 refine JL_call wn rfl Try.call48 rfl (Ca_self (fun _ => rfl) fun w hh => c_spec_l22ReadAll _ w (fun _ hk => hk.elim) _ _ _ _ hr2) (fun x3 => ?_)
 obtain ⟨x3_0, x3_1⟩ := x3
 refine JM rfl rfl ?_
 refine JL_q wn rfl (ex_extract rfl rfl) ?_
 refine JL_q wn rfl (ex_extract rfl rfl) ?_
 refine JL_q wn rfl (ex_extract rfl rfl) ?_
 refine JA rfl rfl ?_
 refine JA rfl rfl ?_
 refine JA rfl rfl ?_
 refine JL_nt ?_
 refine J_seq ?_
 refine J_sr ?_
 refine JM rfl rfl ?_
 refine JL_q wn rfl (ex_not rfl) ?_
 refine JM rfl rfl ?_
 refine JL_cond (fun h4 => ?_) (fun h4 => ?_)
 ·refine JL_passed rfl rfl rfl h4 ?_
  refine JL_passed rfl rfl rfl h4 ?_
  refine JL_q wn rfl (ex_pick_true rfl h4 rfl) ?_
  refine JM rfl rfl ?_
  refine JL_passed rfl rfl rfl rfl ?_
  refine JL_passed rfl rfl rfl rfl ?_
  refine JL_passed rfl rfl rfl rfl ?_
  refine JL_q wn rfl (ex_pick_true rfl rfl rfl) ?_
  refine JM rfl rfl ?_
  refine JL_passed rfl rfl rfl rfl ?_
  refine JL_passed rfl rfl rfl rfl ?_
  refine JL_passed rfl rfl rfl rfl ?_
  refine JL_passed rfl rfl rfl rfl ?_
  refine JL_q wn rfl (ex_pick_true rfl rfl rfl) ?_
  refine JL_nt ?_
  refine J_if_true rfl rfl ?_
  refine J_sr ?_
  refine JA rfl rfl ?_
  refine JA rfl rfl ?_
  refine JL_nt ?_
  refine J_ret ?_
  refine N_then_ret ?_
  refine N_ctx (fun w hh => SH.od_nil (α := GCommand) 54 hh) ?_
  exact N_ret2 rfl (rv_tmp rfl) (rv_tmp rfl) (fun w hh => ⟨((.slice none 0 0 : Value), ([] : List Nat)), rfl, hh.sel [0] rfl⟩)
 ·refine JL_q (wants_some rfl rfl rfl h4) rfl (ex_move rfl) ?_
  refine JL_q (wants_some rfl rfl rfl h4) rfl (ex_eql_str rfl rfl) ?_
  refine JL_q wn rfl (ex_pick_false rfl h4 rfl) ?_
  refine JM rfl rfl ?_
  refine JL_cond (fun h5 => ?_) (fun h5 => ?_)
  ·refine JL_passed rfl rfl rfl h5 ?_
   refine JL_passed rfl rfl rfl h5 ?_
   refine JL_passed rfl rfl rfl h5 ?_
   refine JL_q wn rfl (ex_pick_true rfl h5 rfl) ?_
   refine JM rfl rfl ?_
   refine JL_passed rfl rfl rfl rfl ?_
   refine JL_passed rfl rfl rfl rfl ?_
   refine JL_passed rfl rfl rfl rfl ?_
   refine JL_passed rfl rfl rfl rfl ?_
   refine JL_q wn rfl (ex_pick_true rfl rfl rfl) ?_
   refine JL_nt ?_
   refine J_if_true rfl rfl ?_
   refine J_sr ?_
   refine JA rfl rfl ?_
   refine JA rfl rfl ?_
   refine JL_nt ?_
   refine J_ret ?_
   refine N_then_ret ?_
   refine N_ctx (fun w hh => SH.od_nil (α := GCommand) 54 hh) ?_
   exact N_ret2 rfl (rv_tmp rfl) (rv_tmp rfl) (fun w hh => ⟨((.slice none 0 0 : Value), ([] : List Nat)), rfl, hh.sel [0] rfl⟩)
  ·refine JL_q (wants_some rfl rfl rfl h5) rfl (ex_move rfl) ?_
   refine JL_bnd fun r6 hr7 => ?_
   refine JL_call (wants_some rfl rfl rfl h5) rfl Try.call49 rfl (Ca_of0 fun w hh => c_spec_l22Is _ w (fun _ hk => hk.elim) _ _ (hh.od0 0 rfl) _ hr7) (fun _ => ?_)
   refine JL_q (wants_some rfl rfl rfl h5) rfl (ex_not rfl) ?_
   refine JL_q wn rfl (ex_pick_false rfl h5 rfl) ?_
   refine JM rfl rfl ?_
   refine JL_cond (fun h8 => ?_) (fun h8 => ?_)
   ·refine JL_passed rfl rfl rfl h8 ?_
    refine JL_passed rfl rfl rfl h8 ?_
    refine JL_passed rfl rfl rfl h8 ?_
    refine JL_passed rfl rfl rfl h8 ?_
    refine JL_q wn rfl (ex_pick_true rfl h8 rfl) ?_
    refine JL_nt ?_
    refine J_if_true rfl rfl ?_
    refine J_sr ?_
    refine JA rfl rfl ?_
    refine JA rfl rfl ?_
    refine JL_nt ?_
    refine J_ret ?_
    refine N_then_ret ?_
    refine N_ctx (fun w hh => SH.od_nil (α := GCommand) 54 hh) ?_
    exact N_ret2 rfl (rv_tmp rfl) (rv_tmp rfl) (fun w hh => ⟨((.slice none 0 0 : Value), ([] : List Nat)), rfl, hh.sel [0] rfl⟩)
   ·refine JL_q (wants_some rfl rfl rfl h8) rfl (ex_move rfl) ?_
    refine JL_bnd fun r9 hr10 => ?_
    refine JL_call (wants_some rfl rfl rfl h8) rfl Try.call50 rfl (Ca_of0 fun w hh => c_spec_l22Text _ w (fun _ hk => hk.elim) _ _ (hh.od0 0 rfl) _ hr10) (fun _ => ?_)
    refine JL_q (wants_some rfl rfl rfl h8) rfl (ex_move rfl) ?_
    refine JL_q (wants_some rfl rfl rfl h8) rfl (ex_neq_str rfl rfl) ?_
    refine JL_q wn rfl (ex_pick_false rfl h8 rfl) ?_
    refine JL_nt ?_
    refine J_if rfl (fun h11 => ?_) (fun h11 => ?_)
    ·refine J_sr ?_
     refine JA rfl rfl ?_
     refine JA rfl rfl ?_
     refine JL_nt ?_
     refine J_ret ?_
     refine N_then_ret ?_
     refine N_ctx (fun w hh => SH.od_nil (α := GCommand) 54 hh) ?_
     exact N_ret2 rfl (rv_tmp rfl) (rv_tmp rfl) (fun w hh => ⟨((.slice none 0 0 : Value), ([] : List Nat)), rfl, hh.sel [0] rfl⟩)
    ·refine J_skip ?_
     refine N_then ?_
     refine J_sr ?_
     refine JM rfl rfl ?_
     refine JA rfl rfl ?_
     refine JA rfl rfl ?_
     refine JL_nt ?_
     refine J_ret ?_
     exact N_ret2 rfl (rv_tmp rfl) (rv_tmp rfl) (fun w hh => ⟨(x3_0, x3_1), rfl, hh.sel [0] rfl⟩)
set_option maxHeartbeats 40000000 in
theorem c_spec_l23DrawExpr_ind : ∀ (k_ : Nat) (w : World) (b0_ : Nat) (p0 : Gl00Src) (v0_0 : Value) (B_ : List Nat) (hB_ : Ctx.owns [.bx b0_ 58 [v0_0, .int .i64 p0.at_, .int .u64 p0.seed.val]] = B_) (hn_ : PHanded w [.bx b0_ 58 [v0_0, .int .i64 p0.at_, .int .u64 p0.seed.val]]) (hp0_0 : Rd (fun k => k ∈ B_) w v0_0 p0.code) (p1 : Int) (r : ((List GExpr)) × (Int × (Ik .u64))) (hr : fixN (fun (rec_ : (Gl00Src × Int) → Option (((List GExpr)) × (Int × (Ik .u64)))) (a_ : Gl00Src × Int) => F_spec_l23DrawExpr_step (fun p0 p1 => rec_ (p0, p1)) a_.1 a_.2) k_ (p0, p1) = some r),
  PtrCon Try.prog 30 [.pointer (some ⟨b0_, 0, none⟩), .int .i64 p1] w B_ (fun x_ : Value => x_) (fun x_ => [.ow 67 x_ r.1, .bx b0_ 58 [v0_0, .int .i64 r.2.1, .int .u64 r.2.2.val]]) := by
 intro k_
 induction k_ with
 | zero => intro w b0_ p0 v0_0 B_ hB_ hn_ hp0_0 p1 r hr; cases hr
 | succ k_ ih_ =>
 intro w b0_ p0 v0_0 B_ hB_ hn_ hp0_0 p1 r hr
 replace hr : F_spec_l23DrawExpr_step (fun p0 p1 => fixN (fun (rec_ : (Gl00Src × Int) → Option (((List GExpr)) × (Int × (Ik .u64)))) (a_ : Gl00Src × Int) => F_spec_l23DrawExpr_step (fun p0 p1 => rec_ (p0, p1)) a_.1 a_.2) k_ (p0, p1)) p0 p1 = some r := hr
 refine PtrCon_of (v := fun (r : ((List GExpr)) × (Int × (Ik .u64))) (x_ : Value) => x_) (fs := fun r x_ => [.ow 67 x_ r.1, .bx b0_ 58 [v0_0, .int .i64 r.2.1, .int .u64 r.2.2.val]]) Try.func30 rfl Try.ntmps30 rfl (show SH nowhere (bare w) w [.rd v0_0 p0.code, .bx b0_ 58 [v0_0, .int .i64 p0.at_, .int .u64 p0.seed.val], .tkn (.int .i64 0) (0 : Int) (restL w B_), rest w B_] from ((SH.begin hB_ hn_).cons_apart hB_ hp0_0)) rfl ?_ hr
 unfold F_spec_l23DrawExpr_step
 refine J_sr ?_
 refine JA rfl rfl ?_
 refine JL_nt ?_
 refine J_sr ?_
 refine JM rfl rfl ?_
 refine JL_bnd fun r1 hr2 => ?_
 refine JL_callT wn rfl Try.call29 rfl (CaT_of [1] [0, 2, 3] rfl rfl (fun _ => rfl) fun w hh => c_spec_l00Src_pick w b0_ p0 v0_0 _ rfl (hh.handed [1] rfl rfl rfl rfl) (hh.apart [1] rfl (hh.rd 0 rfl)) _ _ hr2) (fun _ => ?_)
 refine JA rfl rfl ?_
 refine JL_nt ?_
 refine J_seq ?_
 refine J_cut' (S' := Int × (Ik .u64) × Int) (G' := Unit) (fun s3 _ => [(0, .pointer (some ⟨b0_, 0, none⟩)), (1, .int .i64 p1), (5, .int .i64 s3.2.2)]) (fun s3 _ => [rest w B_, .rd v0_0 p0.code, .bx b0_ 58 [v0_0, .int .i64 s3.1, .int .u64 s3.2.1.val], .tkn (.int .i64 0) (0 : Int) (restL w B_)]) ?_ (fun s3 g4 => ?_)
 ·refine J_sr ?_
  refine JM rfl rfl ?_
  refine JL_q wn rfl (ex_leq rfl rfl) ?_
  refine JL_nt ?_
  refine J_if rfl (fun h5 => ?_) (fun h5 => ?_)
  ·refine J_region ?_
   refine JM rfl rfl ?_
   refine JL_bnd fun r6 hr7 => ?_
   refine JL_callT wn rfl Try.call29 rfl (CaT_of [0] [1, 2, 3] rfl rfl (fun _ => rfl) fun w hh => c_spec_l00Src_pick w b0_ (⟨p0.code, r1.2.1, r1.2.2⟩ : Gl00Src) v0_0 _ rfl (hh.handed [0] rfl rfl rfl rfl) (hh.apart [0] rfl (hh.rd 1 rfl)) _ _ hr7) (fun _ => ?_)
   refine JA rfl rfl ?_
   refine JL_nil ?_
   exact N_meet' () ⟨rfl, rfl, rfl, trivial⟩ [3, 1, 0, 2] rfl rfl
  ·refine J_skip ?_
   exact N_meet' () ⟨rfl, rfl, rfl, trivial⟩ [3, 1, 0, 2] rfl rfl
 ·refine N_then ?_
  refine J_sr ?_
  refine JM rfl rfl ?_
  refine JL_q wn rfl (ex_build si_67 rfl (.cons fi_67_0 rfl rfl .nil) (fun w hh => ⟨cv_int, trivial⟩)) ?_
  refine JL_st wn rfl (st_buildSlice (vs := [.agg #[.int .i64 s3.2.2, .int .i64 0]]) ([(⟨s3.2.2, 0⟩ : GExpr)] : List GExpr) Try.underlying52 ti_67 zi_67 rfl rfl rfl (fun w hh => ⟨(GExpr.rdmk (Rd.mk_int _ _ _) (Rd.mk_int _ _ _)), trivial⟩)) (fun b8 => ?_)
  refine JA rfl rfl ?_
  refine JL_nt ?_
  refine J_seq ?_
  refine J_sr ?_
  refine JM rfl rfl ?_
  refine JL_bnd fun r9 hr10 => ?_
  refine JL_call wn rfl Try.call52 rfl (Ca_of0 fun w hh => c_spec_l22Many _ w (fun _ hk => hk.elim) _ _ hr10) (fun _ => ?_)
  refine JA rfl rfl ?_
  refine JL_nt ?_
  refine J_loop' (S := Int × (Ik .u64) × (List GExpr) × Int) (G := Value) (F_spec_l23DrawExpr_L1 p0 p1 (fun p0 p1 => fixN (fun (rec_ : (Gl00Src × Int) → Option (((List GExpr)) × (Int × (Ik .u64)))) (a_ : Gl00Src × Int) => F_spec_l23DrawExpr_step (fun p0 p1 => rec_ (p0, p1)) a_.1 a_.2) k_ (p0, p1))) (fun s11 g12 => [(0, .pointer (some ⟨b0_, 0, none⟩)), (1, .int .i64 p1), (6, g12), (7, .int .i64 s11.2.2.2)]) (fun s11 g12 => [rest w B_, .rd v0_0 p0.code, .bx b0_ 58 [v0_0, .int .i64 s11.1, .int .u64 s11.2.1.val], .ow 67 g12 s11.2.2.1, .tkn (.int .i64 0) (0 : Int) (restL w B_)]) (s3.1, s3.2.1, ([(⟨s3.2.2, 0⟩ : GExpr)] : List GExpr), r9) (.slice (some ⟨b8, 0, none⟩) 1 1) ⟨rfl, rfl, rfl, rfl, trivial⟩ [1, 2, 3, 0, 4] rfl rfl (fun s11 g12 => ?_) (fun s11 g12 => ?_)
  ·unfold F_spec_l23DrawExpr_L1
   refine J_seq ?_
   refine J_sr ?_
   refine JM rfl rfl ?_
   refine JL_q wn rfl (ex_gtr rfl rfl) ?_
   refine JL_nt ?_
   refine J_if rfl (fun h13 => ?_) (fun h13 => ?_)
   ·refine J_skip ?_
    refine N_then ?_
    refine J_seq ?_
    refine J_block ?_
    refine J_region ?_
    refine JM rfl rfl ?_
    refine JM rfl rfl ?_
    refine JM rfl rfl ?_
    refine JL_q wn rfl (ex_sub rfl rfl) ?_
    refine JL_bnd fun r14 hr15 => ?_
    refine JL_callT wn rfl Try.call30 rfl (CaT_of [2] [0, 1, 3, 4] rfl rfl (fun _ => rfl) fun w hh => ih_ w b0_ (⟨p0.code, s11.1, s11.2.1⟩ : Gl00Src) v0_0 _ rfl (hh.handed [2] rfl rfl rfl rfl) (hh.apart [2] rfl (hh.rd 1 rfl)) _ _ hr15) (fun x16 => ?_)
    refine JL_bnd fun z17 hz18 => ?_
    refine JL_st wn rfl (st_append 4 Try.underlying52 ti_67 zi_67 rfl bi_67 rfl rfl rfl rfl (fun w hh => hh.src_ow 0 rfl) hz18) (fun v19 => ?_)
    refine JA rfl rfl ?_
    refine JL_nil ?_
    refine N_block ?_
    refine N_then ?_
    refine J_region ?_
    refine JM rfl rfl ?_
    refine JL_q wn rfl (ex_sub rfl rfl) ?_
    refine JA rfl rfl ?_
    refine JL_nil ?_
    exact N_next' v19 ⟨rfl, rfl, rfl, rfl, trivial⟩ [2, 3, 1, 4, 5] rfl rfl
   ·refine J_exit ?_
    refine N_then_exit ?_
    exact N_break' g12 ⟨rfl, rfl, rfl, rfl, trivial⟩ [0, 1, 2, 3, 4] rfl rfl
  ·refine N_then ?_
   refine J_sr ?_
   refine JM rfl rfl ?_
   refine JA rfl rfl ?_
   refine JL_nt ?_
   refine J_ret ?_
   exact N_ret1 rfl (rv_tmp rfl) (fun w hh => ⟨g12, rfl, hh.sel [3, 2, 4, 0] rfl⟩)
theorem c_spec_l23DrawExpr (w : World) (b0_ : Nat) (p0 : Gl00Src) (v0_0 : Value) (B_ : List Nat) (hB_ : Ctx.owns [.bx b0_ 58 [v0_0, .int .i64 p0.at_, .int .u64 p0.seed.val]] = B_) (hn_ : PHanded w [.bx b0_ 58 [v0_0, .int .i64 p0.at_, .int .u64 p0.seed.val]]) (hp0_0 : Rd (fun k => k ∈ B_) w v0_0 p0.code) (p1 : Int) (r : ((List GExpr)) × (Int × (Ik .u64))) (hr : F_spec_l23DrawExpr p0 p1 = some r) :
  PtrCon Try.prog 30 [.pointer (some ⟨b0_, 0, none⟩), .int .i64 p1] w B_ (fun x_ : Value => x_) (fun x_ => [.ow 67 x_ r.1, .bx b0_ 58 [v0_0, .int .i64 r.2.1, .int .u64 r.2.2.val]]) := by
 obtain ⟨k_, hk_⟩ := fixR_some hr
 exact c_spec_l23DrawExpr_ind k_ w b0_ p0 v0_0 B_ hB_ hn_ hp0_0 p1 r hk_
set_option maxHeartbeats 40000000 in
theorem c_spec_l00Src_among (w : World) (b0_ : Nat) (p0 : Gl00Src) (v0_0 : Value) (B_ : List Nat) (hB_ : Ctx.owns [.bx b0_ 58 [v0_0, .int .i64 p0.at_, .int .u64 p0.seed.val]] = B_) (hn_ : PHanded w [.bx b0_ 58 [v0_0, .int .i64 p0.at_, .int .u64 p0.seed.val]]) (hp0_0 : Rd (fun k => k ∈ B_) w v0_0 p0.code) (v1_ : Value) (p1 : (List Int)) (hp1 : Rd (fun k => k ∈ B_) w v1_ p1) (r : (Int) × (Int × (Ik .u64))) (hr : F_spec_l00Src_among p0 p1 = some r) :
  PtrCon Try.prog 31 [.pointer (some ⟨b0_, 0, none⟩), v1_] w B_ (fun x_ : Unit => .int .i64 r.1) (fun x_ => [.bx b0_ 58 [v0_0, .int .i64 r.2.1, .int .u64 r.2.2.val]]) := by
 refine PtrCon_of (v := fun (r : (Int) × (Int × (Ik .u64))) (x_ : Unit) => .int .i64 r.1) (fs := fun r x_ => [.bx b0_ 58 [v0_0, .int .i64 r.2.1, .int .u64 r.2.2.val]]) Try.func31 rfl Try.ntmps31 rfl (show SH nowhere (bare w) w [.rd v1_ p1, .rd v0_0 p0.code, .bx b0_ 58 [v0_0, .int .i64 p0.at_, .int .u64 p0.seed.val], .tkn (.int .i64 0) (0 : Int) (restL w B_), rest w B_] from (((SH.begin hB_ hn_).cons_apart hB_ hp0_0).cons_apart hB_ hp1)) rfl ?_ hr
 unfold F_spec_l00Src_among
 refine J_sr ?_
 refine JA rfl rfl ?_
 refine JL_nt ?_
 refine J_sr ?_
 refine JM rfl rfl ?_
 refine JM rfl rfl ?_
 refine JM rfl rfl ?_
 refine JL_q wn rfl (ex_len_rd 0 Try.underlying69 rfl rfl) ?_
 refine JL_bnd fun r1 hr2 => ?_
 refine JL_callT wn rfl Try.call29 rfl (CaT_of [2] [0, 1, 3, 4] rfl rfl (fun _ => rfl) fun w hh => c_spec_l00Src_pick w b0_ p0 v0_0 _ rfl (hh.handed [2] rfl rfl rfl rfl) (hh.apart [2] rfl (hh.rd 1 rfl)) _ _ hr2) (fun _ => ?_)
 refine JL_bnd fun y3 hy4 => ?_
 refine JL_st wn rfl (st_index 1 Try.underlying69 ti_2 rfl rfl rfl hy4) (fun q5 => ?_)
 refine JL_st wn rfl (st_load_pt_o 0 (opens_int _) ti_2 rfl rfl) (fun _ => ?_)
 refine JA rfl rfl ?_
 refine JL_nt ?_
 refine J_ret ?_
 exact N_ret1 rfl (rv_tmp rfl) (fun w hh => ⟨(), rfl, hh.sel [1, 4, 5] rfl⟩)
set_option maxHeartbeats 40000000 in
theorem c_spec_l23DrawOk (w : World) (b0_ : Nat) (p0 : Gl00Src) (v0_0 : Value) (B_ : List Nat) (hB_ : Ctx.owns [.bx b0_ 58 [v0_0, .int .i64 p0.at_, .int .u64 p0.seed.val]] = B_) (hn_ : PHanded w [.bx b0_ 58 [v0_0, .int .i64 p0.at_, .int .u64 p0.seed.val]]) (hp0_0 : Rd (fun k => k ∈ B_) w v0_0 p0.code) (r : ((List GCommand)) × (Int × (Ik .u64))) (hr : F_spec_l23DrawOk p0 = some r) :
  PtrCon Try.prog 14 [.pointer (some ⟨b0_, 0, none⟩)] w B_ (fun x_ : Value × List Nat => x_.1) (fun x_ => [.od 54 x_.1 r.1 x_.2, .bx b0_ 58 [v0_0, .int .i64 r.2.1, .int .u64 r.2.2.val]]) := by
 refine PtrCon_of (v := fun (r : ((List GCommand)) × (Int × (Ik .u64))) (x_ : Value × List Nat) => x_.1) (fs := fun r x_ => [.od 54 x_.1 r.1 x_.2, .bx b0_ 58 [v0_0, .int .i64 r.2.1, .int .u64 r.2.2.val]]) Try.func14 rfl Try.ntmps14 rfl (show SH nowhere (bare w) w [.rd v0_0 p0.code, .bx b0_ 58 [v0_0, .int .i64 p0.at_, .int .u64 p0.seed.val], .tkn (.int .i64 0) (0 : Int) (restL w B_), rest w B_] from ((SH.begin hB_ hn_).cons_apart hB_ hp0_0)) rfl ?_ hr
 unfold F_spec_l23DrawOk
 refine J_sr ?_
 refine JA rfl rfl ?_
 refine JL_nt ?_
 refine J_seq ?_
 refine J_sr ?_
 refine JM rfl rfl ?_
 refine JL_bnd fun r1 hr2 => ?_
 refine JL_callT wn rfl Try.call26 rfl (CaT_of [1] [0, 2, 3] rfl rfl (fun _ => rfl) fun w hh => c_spec_l00Src_one w b0_ p0 v0_0 _ rfl (hh.handed [1] rfl rfl rfl rfl) (hh.apart [1] rfl (hh.rd 0 rfl)) _ _ hr2) (fun _ => ?_)
 refine JL_nt ?_
 refine J_if rfl (fun h3 => ?_) (fun h3 => ?_)
 ·refine J_sr ?_
  refine JM rfl rfl ?_
  refine JL_st wn rfl (st_buildSlice (vs := [.string (⟨#[48, 61, 40, 116, 48, 46, 104, 48, 41]⟩ : ByteArray), .string (⟨#[48, 61, 40, 104, 48, 63, 116, 48, 41]⟩ : ByteArray), .string (⟨#[119, 48, 123, 48, 61, 116, 48, 125]⟩ : ByteArray), .string (⟨#[119, 48, 123, 48, 61, 104, 48, 125, 59, 48, 61, 40, 110, 46, 110, 41]⟩ : ByteArray), .string (⟨#[119, 48, 123, 119, 48, 123, 48, 61, 116, 48, 125, 125, 59, 48, 61, 40, 48, 46, 48, 41]⟩ : ByteArray), .string (⟨#[48, 61, 40, 48, 46, 110, 41, 59, 119, 48, 123, 48, 61, 116, 48, 125]⟩ : ByteArray)]) ([(⟨#[48, 61, 40, 116, 48, 46, 104, 48, 41]⟩ : ByteArray), (⟨#[48, 61, 40, 104, 48, 63, 116, 48, 41]⟩ : ByteArray), (⟨#[119, 48, 123, 48, 61, 116, 48, 125]⟩ : ByteArray), (⟨#[119, 48, 123, 48, 61, 104, 48, 125, 59, 48, 61, 40, 110, 46, 110, 41]⟩ : ByteArray), (⟨#[119, 48, 123, 119, 48, 123, 48, 61, 116, 48, 125, 125, 59, 48, 61, 40, 48, 46, 48, 41]⟩ : ByteArray), (⟨#[48, 61, 40, 48, 46, 110, 41, 59, 119, 48, 123, 48, 61, 116, 48, 125]⟩ : ByteArray)] : List ByteArray) Try.underlying63 ti_9 zi_9 rfl rfl rfl (fun w hh => ⟨(Rd.mk_str _ _ _), (Rd.mk_str _ _ _), (Rd.mk_str _ _ _), (Rd.mk_str _ _ _), (Rd.mk_str _ _ _), (Rd.mk_str _ _ _), trivial⟩)) (fun b4 => ?_)
  refine JL_bnd fun r5 hr6 => ?_
  refine JL_ctx (fun w hh => hh.tokf 0 rfl rfl) ?_
  refine JL_callT wn rfl Try.call28 rfl (CaT_of [2] [0, 1, 3, 4, 5] rfl rfl (fun _ => rfl) fun w hh => c_spec_l00Src_text w b0_ (⟨p0.code, r1.2.1, r1.2.2⟩ : Gl00Src) v0_0 _ rfl (hh.handed [2] rfl rfl rfl rfl) (hh.apart [2] rfl (hh.rd 3 rfl)) _ _ (hh.apart [2] rfl (hh.rd 1 rfl)) _ hr6) (fun _ => ?_)
  refine JL_bnd fun r7 hr8 => ?_
  refine JL_call wn rfl Try.call27 rfl (Ca_self (fun _ => rfl) fun w hh => c_spec_ReadWhile _ w (fun _ hk => hk.elim) _ _ hr8) (fun x9 => ?_)
  obtain ⟨x9_0, x9_1⟩ := x9
  refine JM rfl rfl ?_
  refine JL_q wn rfl (ex_extract rfl rfl) ?_
  refine JL_q wn rfl (ex_extract rfl rfl) ?_
  refine JA rfl rfl ?_
  refine JA rfl rfl ?_
  refine JL_nt ?_
  refine J_sr ?_
  refine JM rfl rfl ?_
  refine JA rfl rfl ?_
  refine JL_nt ?_
  refine J_ret ?_
  refine N_then_ret ?_
  exact N_ret1 rfl (rv_tmp rfl) (fun w hh => ⟨(x9_0, x9_1), rfl, hh.sel [0, 1, 5, 6] rfl⟩)
 ·refine J_skip ?_
  refine N_then ?_
  refine J_sr ?_
  refine JL_st wn rfl (st_buildSlice_od (vs := []) (B := ([] : List Nat)) ([] : List GCommand) [] Try.underlying24 ti_54 zi_54 rfl rfl rfl rfl rfl (fun w hh => dwv_nil)) (fun b10 => ?_)
  refine JA rfl rfl ?_
  refine JL_nt ?_
  refine J_seq ?_
  refine J_sr ?_
  refine JM rfl rfl ?_
  refine JL_bnd fun r11 hr12 => ?_
  refine JL_callT wn rfl Try.call29 rfl (CaT_of [1] [0, 2, 3, 4] rfl rfl (fun _ => rfl) fun w hh => c_spec_l00Src_pick w b0_ (⟨p0.code, r1.2.1, r1.2.2⟩ : Gl00Src) v0_0 _ rfl (hh.handed [1] rfl rfl rfl rfl) (hh.apart [1] rfl (hh.rd 2 rfl)) _ _ hr12) (fun _ => ?_)
  refine JL_q wn rfl (ex_add rfl rfl) ?_
  refine JA rfl rfl ?_
  refine JL_nt ?_
  refine J_loop' (S := Int × (Ik .u64) × (List GCommand) × Int) (G := Value × List Nat) (F_spec_l23DrawOk_L1 p0) (fun s13 g14 => [(0, .pointer (some ⟨b0_, 0, none⟩)), (5, g14.1), (6, .int .i64 s13.2.2.2)]) (fun s13 g14 => [rest w B_, .rd v0_0 p0.code, .bx b0_ 58 [v0_0, .int .i64 s13.1, .int .u64 s13.2.1.val], .od 54 g14.1 s13.2.2.1 g14.2, .tkn (.int .i64 0) (0 : Int) (restL w B_)]) (r11.2.1, r11.2.2, ([] : List GCommand), (w64 (1 + r11.1))) ((.slice (some ⟨b10, 0, none⟩) 0 0), ([] : List Nat)) ⟨rfl, rfl, rfl, trivial⟩ [4, 2, 0, 1, 3] rfl rfl (fun s13 g14 => ?_) (fun s13 g14 => ?_)
  ·obtain ⟨g14_0, g14_1⟩ := g14
   unfold F_spec_l23DrawOk_L1
   refine J_seq ?_
   refine J_sr ?_
   refine JM rfl rfl ?_
   refine JL_q wn rfl (ex_gtr rfl rfl) ?_
   refine JL_nt ?_
   refine J_if rfl (fun h15 => ?_) (fun h15 => ?_)
   ·refine J_skip ?_
    refine N_then ?_
    refine J_seq ?_
    refine J_block ?_
    refine J_sr ?_
    refine JM rfl rfl ?_
    refine JL_bnd fun r16 hr17 => ?_
    refine JL_callT wn rfl Try.call30 rfl (CaT_of [2] [0, 1, 3, 4] rfl rfl (fun _ => rfl) fun w hh => c_spec_l23DrawExpr w b0_ (⟨p0.code, s13.1, s13.2.1⟩ : Gl00Src) v0_0 _ rfl (hh.handed [2] rfl rfl rfl rfl) (hh.apart [2] rfl (hh.rd 1 rfl)) _ _ hr17) (fun x18 => ?_)
    refine JL_q wn rfl (ex_build si_54 rfl (.cons fi_54_3 rfl rfl .nil) (fun w hh => ⟨(hh.cv_ow 0 rfl), trivial⟩)) ?_
    refine JL_st wn rfl (st_alloc zi_54 rfl) (fun b19 => ?_)
    refine JL_sk wn (sk_store_bx' 0 ti_54 rfl rfl (fun w hh => (cv_aggs ⟨cv_int, cv_int, cv_int, (hh.cv_ow 1 rfl), trivial⟩)) rfl rfl rfl rfl) ?_
    refine JL_nt ?_
    refine J_seq ?_
    refine J_sr ?_
    refine JM rfl rfl ?_
    refine JL_bnd fun r20 hr21 => ?_
    refine JL_callT wn rfl Try.call29 rfl (CaT_of [2] [0, 1, 3, 4, 5, 6] rfl rfl (fun _ => rfl) fun w hh => c_spec_l00Src_pick w b0_ (⟨p0.code, r16.2.1, r16.2.2⟩ : Gl00Src) v0_0 _ rfl (hh.handed [2] rfl rfl rfl rfl) (hh.apart [2] rfl (hh.rd 4 rfl)) _ _ hr21) (fun _ => ?_)
    refine JL_q wn rfl (ex_gtr rfl rfl) ?_
    refine JL_nt ?_
    refine J_if rfl (fun h22 => ?_) (fun h22 => ?_)
    ·refine J_sr ?_
     refine JM rfl rfl ?_
     refine JL_q wn rfl (ex_load_bx_agg 1 ti_54 rfl rfl rfl rfl) ?_
     refine JL_ctx (fun w hh => hh.tokf 2 rfl rfl) ?_
     refine JL_st wn rfl (st_buildSlice_od (vs := [.agg #[.int .i64 0, .int .i64 0, .int .i64 0, x18]]) (B := (((x18 : Value).ownBlock.toList ++ []) ++ [])) ([(⟨0, 0, 0, r16.1⟩ : GCommand)] : List GCommand) [0] Try.underlying24 ti_54 zi_54 rfl rfl rfl rfl rfl (fun w hh => (dwv_cons (GCommand.dw (hh.dw 0 rfl)) dwv_nil))) (fun b23 => ?_)
     refine JL_bnd fun z24 hz25 => ?_
     refine JL_st wn rfl (st_append_od 7 0 Try.underlying24 ti_54 zi_54 rfl bi_54 rfl rfl rfl rfl rfl rfl hz25) (fun v26 => ?_)
     refine JA rfl rfl ?_
     refine JL_nt ?_
     refine J_exit ?_
     refine N_then_exit ?_
     refine N_block_exit ?_
     refine N_then ?_
     refine J_region ?_
     refine JM rfl rfl ?_
     refine JL_q wn rfl (ex_sub rfl rfl) ?_
     refine JA rfl rfl ?_
     refine JL_nil ?_
     exact N_next' (v26, (g14_1 ++ (((x18 : Value).ownBlock.toList ++ []) ++ []))) ⟨rfl, rfl, rfl, trivial⟩ [5, 6, 2, 7, 8] rfl rfl
    ·refine J_skip ?_
     refine N_then ?_
     refine J_sr ?_
     refine JL_q wn rfl (ex_build si_67 rfl (.cons fi_67_0 rfl rfl .nil) (fun w hh => ⟨cv_int, trivial⟩)) ?_
     refine JL_st wn rfl (st_buildSlice (vs := [.agg #[.int .i64 1, .int .i64 0]]) ([(⟨1, 0⟩ : GExpr)] : List GExpr) Try.underlying52 ti_67 zi_67 rfl rfl rfl (fun w hh => ⟨(GExpr.rdmk (Rd.mk_int _ _ _) (Rd.mk_int _ _ _)), trivial⟩)) (fun b27 => ?_)
     refine JL_q wn rfl (ex_build si_54 rfl (.cons fi_54_0 rfl rfl (.cons fi_54_2 rfl rfl (.cons fi_54_3 rfl rfl .nil))) (fun w hh => ⟨cv_int, cv_int, (hh.cv_ow 0 rfl), trivial⟩)) ?_
     refine JL_st wn rfl (st_alloc zi_54 rfl) (fun b28 => ?_)
     refine JL_sk wn (sk_store_bx' 0 ti_54 rfl rfl (fun w hh => (cv_aggs ⟨cv_int, cv_int, cv_int, (hh.cv_ow 1 rfl), trivial⟩)) rfl rfl rfl rfl) ?_
     refine JL_nt ?_
     refine J_sr ?_
     refine JM rfl rfl ?_
     refine JL_st wn rfl (st_buildSlice (vs := [.int .i64 4, .int .i64 3]) ([4, 3] : List Int) Try.underlying69 ti_2 zi_2 rfl rfl rfl (fun w hh => ⟨(Rd.mk_int _ _ _), (Rd.mk_int _ _ _), trivial⟩)) (fun b29 => ?_)
     refine JL_bnd fun r30 hr31 => ?_
     refine JL_ctx (fun w hh => hh.tokf 0 rfl rfl) ?_
     refine JL_callT wn rfl Try.call31 rfl (CaT_of [4] [0, 1, 2, 3, 5, 6, 7, 8, 9, 10] rfl rfl (fun _ => rfl) fun w hh => c_spec_l00Src_among w b0_ (⟨p0.code, r20.2.1, r20.2.2⟩ : Gl00Src) v0_0 _ rfl (hh.handed [4] rfl rfl rfl rfl) (hh.apart [4] rfl (hh.rd 8 rfl)) _ _ (hh.apart [4] rfl (hh.rd 1 rfl)) _ hr31) (fun _ => ?_)
     refine JL_q wn rfl (ex_build si_67 rfl (.cons fi_67_0 rfl rfl .nil) (fun w hh => ⟨cv_int, trivial⟩)) ?_
     refine JL_q wn rfl (ex_build si_67 rfl (.cons fi_67_0 rfl rfl .nil) (fun w hh => ⟨cv_int, trivial⟩)) ?_
     refine JL_st wn rfl (st_buildSlice (vs := [.agg #[.int .i64 r30.1, .int .i64 0], .agg #[.int .i64 1, .int .i64 0]]) ([(⟨r30.1, 0⟩ : GExpr), (⟨1, 0⟩ : GExpr)] : List GExpr) Try.underlying52 ti_67 zi_67 rfl rfl rfl (fun w hh => ⟨(GExpr.rdmk (Rd.mk_int _ _ _) (Rd.mk_int _ _ _)), (GExpr.rdmk (Rd.mk_int _ _ _) (Rd.mk_int _ _ _)), trivial⟩)) (fun b32 => ?_)
     refine JL_q wn rfl (ex_build si_54 rfl (.cons fi_54_3 rfl rfl .nil) (fun w hh => ⟨(hh.cv_ow 0 rfl), trivial⟩)) ?_
     refine JL_st wn rfl (st_alloc zi_54 rfl) (fun b33 => ?_)
     refine JL_sk wn (sk_store_bx' 0 ti_54 rfl rfl (fun w hh => (cv_aggs ⟨cv_int, cv_int, cv_int, (hh.cv_ow 1 rfl), trivial⟩)) rfl rfl rfl rfl) ?_
     refine JL_nt ?_
     refine J_region ?_
     refine JM rfl rfl ?_
     refine JL_q wn rfl (ex_load_bx_agg 5 ti_54 rfl rfl rfl rfl) ?_
     refine JL_q wn rfl (ex_load_bx_agg 0 ti_54 rfl rfl rfl rfl) ?_
     refine JL_ctx (fun w hh => hh.tokf 6 rfl rfl) ?_
     refine JL_ctx (fun w hh => hh.tokf 2 rfl rfl) ?_
     refine JL_st wn rfl (st_buildSlice_od (vs := [.agg #[.int .i64 1, .int .i64 0, .int .i64 1, (.slice (some ⟨b27, 0, none⟩) 1 1)], .agg #[.int .i64 0, .int .i64 0, .int .i64 0, (.slice (some ⟨b32, 0, none⟩) 2 2)]]) (B := ((((.slice (some ⟨b27, 0, none⟩) 1 1) : Value).ownBlock.toList ++ []) ++ ((((.slice (some ⟨b32, 0, none⟩) 2 2) : Value).ownBlock.toList ++ []) ++ []))) ([(⟨1, 0, 1, ([(⟨1, 0⟩ : GExpr)] : List GExpr)⟩ : GCommand), (⟨0, 0, 0, ([(⟨r30.1, 0⟩ : GExpr), (⟨1, 0⟩ : GExpr)] : List GExpr)⟩ : GCommand)] : List GCommand) [1, 0] Try.underlying24 ti_54 zi_54 rfl rfl rfl rfl rfl (fun w hh => (dwv_cons (GCommand.dw (hh.dw 1 rfl)) (dwv_cons (GCommand.dw (hh.dw 0 rfl)) dwv_nil)))) (fun b34 => ?_)
     refine JL_bnd fun z35 hz36 => ?_
     refine JL_st wn rfl (st_append_od 14 0 Try.underlying24 ti_54 zi_54 rfl bi_54 rfl rfl rfl rfl rfl rfl hz36) (fun v37 => ?_)
     refine JA rfl rfl ?_
     refine JL_nil ?_
     refine N_block ?_
     refine N_then ?_
     refine J_region ?_
     refine JM rfl rfl ?_
     refine JL_q wn rfl (ex_sub rfl rfl) ?_
     refine JA rfl rfl ?_
     refine JL_nil ?_
     exact N_next' (v37, (g14_1 ++ ((((.slice (some ⟨b27, 0, none⟩) 1 1) : Value).ownBlock.toList ++ []) ++ ((((.slice (some ⟨b32, 0, none⟩) 2 2) : Value).ownBlock.toList ++ []) ++ [])))) ⟨rfl, rfl, rfl, trivial⟩ [12, 13, 5, 14, 15] rfl rfl
   ·refine J_exit ?_
    refine N_then_exit ?_
    exact N_break' (g14_0, g14_1) ⟨rfl, rfl, rfl, trivial⟩ [0, 1, 2, 3, 4] rfl rfl
  ·obtain ⟨g14_0, g14_1⟩ := g14
   refine N_then ?_
   refine J_sr ?_
   refine JM rfl rfl ?_
   refine JA rfl rfl ?_
   refine JL_nt ?_
   refine J_ret ?_
   exact N_ret1 rfl (rv_tmp rfl) (fun w hh => ⟨(g14_0, g14_1), rfl, hh.sel [3, 2, 4, 0] rfl⟩)
set_option maxHeartbeats 40000000 in
theorem c_spec_l21Nil (A : Nat → Prop) (w : World) (hA : ∀ k, A k → k < w.heap.size)  (r : (List Bool)) (hr : F_spec_l21Nil  = some r) :
  Con Try.prog 32 [] A w (fun x_ : Value => x_) (fun x_ => [.ow 4 x_ r]) := by
 refine Con_of (v := fun (r : (List Bool)) (x_ : Value) => x_) (fs := fun r x_ => [.ow 4 x_ r]) Try.func32 rfl Try.ntmps32 rfl (SH.start hA) rfl ?_ hr
 unfold F_spec_l21Nil
 refine J_sr ?_
 refine JA rfl rfl ?_
 refine JL_nt ?_
 refine J_sr ?_
 refine JL_st wn rfl (st_buildSlice (vs := [.bool false]) ([false] : List Bool) Try.underlying25 ti_4 zi_4 rfl rfl rfl (fun w hh => ⟨(Rd.mk_bool _ _ _), trivial⟩)) (fun b1 => ?_)
 refine JA rfl rfl ?_
 refine JL_nt ?_
 refine J_ret ?_
 exact N_ret1 rfl (rv_tmp rfl) (fun w hh => ⟨(.slice (some ⟨b1, 0, none⟩) 1 1), rfl, hh.sel [0] rfl⟩)
set_option maxHeartbeats 40000000 in
theorem c_spec_l21Pair (A : Nat → Prop) (w : World) (hA : ∀ k, A k → k < w.heap.size) (v0_ : Value) (p0 : (List Bool)) (hp0 : Rd A w v0_ p0) (v1_ : Value) (p1 : (List Bool)) (hp1 : Rd A w v1_ p1) (r : (List Bool)) (hr : F_spec_l21Pair p0 p1 = some r) :
  Con Try.prog 33 [v0_, v1_] A w (fun x_ : Value => x_) (fun x_ => [.ow 4 x_ r]) := by
 refine Con_of (v := fun (r : (List Bool)) (x_ : Value) => x_) (fs := fun r x_ => [.ow 4 x_ r]) Try.func33 rfl Try.ntmps33 rfl (((SH.start hA).start_rd rfl hp0).start_rd rfl hp1) rfl ?_ hr
 unfold F_spec_l21Pair
 refine J_sr ?_
 refine JA rfl rfl ?_
 refine JL_nt ?_
 refine J_sr ?_
 refine JL_st wn rfl (st_buildSlice (vs := [.bool true]) ([true] : List Bool) Try.underlying25 ti_4 zi_4 rfl rfl rfl (fun w hh => ⟨(Rd.mk_bool _ _ _), trivial⟩)) (fun b1 => ?_)
 refine JM rfl rfl ?_
 refine JL_bnd fun z2 hz3 => ?_
 refine JL_st wn rfl (st_append 0 Try.underlying25 ti_4 zi_4 rfl bi_4 rfl rfl rfl rfl (fun w hh => hh.src_rd 2 rfl) hz3) (fun v4 => ?_)
 refine JA rfl rfl ?_
 refine JL_nt ?_
 refine J_sr ?_
 refine JM rfl rfl ?_
 refine JM rfl rfl ?_
 refine JL_bnd fun z5 hz6 => ?_
 refine JL_st wn rfl (st_append 0 Try.underlying25 ti_4 zi_4 rfl bi_4 rfl rfl rfl rfl (fun w hh => hh.src_rd 1 rfl) hz6) (fun v7 => ?_)
 refine JA rfl rfl ?_
 refine JL_nt ?_
 refine J_ret ?_
 exact N_ret1 rfl (rv_tmp rfl) (fun w hh => ⟨v7, rfl, hh.sel [0] rfl⟩)
set_option maxHeartbeats 40000000 in
theorem c_spec_l21DrawDeep_ind : ∀ (k_ : Nat) (w : World) (b0_ : Nat) (p0 : Gl00Src) (v0_0 : Value) (B_ : List Nat) (hB_ : Ctx.owns [.bx b0_ 58 [v0_0, .int .i64 p0.at_, .int .u64 p0.seed.val]] = B_) (hn_ : PHanded w [.bx b0_ 58 [v0_0, .int .i64 p0.at_, .int .u64 p0.seed.val]]) (hp0_0 : Rd (fun k => k ∈ B_) w v0_0 p0.code) (p1 : Int) (r : ((List Bool)) × (Int × (Ik .u64))) (hr : fixN (fun (rec_ : (Gl00Src × Int) → Option (((List Bool)) × (Int × (Ik .u64)))) (a_ : Gl00Src × Int) => F_spec_l21DrawDeep_step (fun p0 p1 => rec_ (p0, p1)) a_.1 a_.2) k_ (p0, p1) = some r),
  PtrCon Try.prog 15 [.pointer (some ⟨b0_, 0, none⟩), .int .i64 p1] w B_ (fun x_ : Value => x_) (fun x_ => [.ow 4 x_ r.1, .bx b0_ 58 [v0_0, .int .i64 r.2.1, .int .u64 r.2.2.val]]) := by
 intro k_
 induction k_ with
 | zero => intro w b0_ p0 v0_0 B_ hB_ hn_ hp0_0 p1 r hr; cases hr
 | succ k_ ih_ =>
 intro w b0_ p0 v0_0 B_ hB_ hn_ hp0_0 p1 r hr
 replace hr : F_spec_l21DrawDeep_step (fun p0 p1 => fixN (fun (rec_ : (Gl00Src × Int) → Option (((List Bool)) × (Int × (Ik .u64)))) (a_ : Gl00Src × Int) => F_spec_l21DrawDeep_step (fun p0 p1 => rec_ (p0, p1)) a_.1 a_.2) k_ (p0, p1)) p0 p1 = some r := hr
 refine PtrCon_of (v := fun (r : ((List Bool)) × (Int × (Ik .u64))) (x_ : Value) => x_) (fs := fun r x_ => [.ow 4 x_ r.1, .bx b0_ 58 [v0_0, .int .i64 r.2.1, .int .u64 r.2.2.val]]) Try.func15 rfl Try.ntmps15 rfl (show SH nowhere (bare w) w [.rd v0_0 p0.code, .bx b0_ 58 [v0_0, .int .i64 p0.at_, .int .u64 p0.seed.val], .tkn (.int .i64 0) (0 : Int) (restL w B_), rest w B_] from ((SH.begin hB_ hn_).cons_apart hB_ hp0_0)) rfl ?_ hr
 unfold F_spec_l21DrawDeep_step
 refine J_sr ?_
 refine JA rfl rfl ?_
 refine JL_nt ?_
 refine J_seq ?_
 refine J_sr ?_
 refine JM rfl rfl ?_
 refine JL_q wn rfl (ex_leq rfl rfl) ?_
 refine JM rfl rfl ?_
 refine JL_cond (fun h1 => ?_) (fun h1 => ?_)
 ·refine JL_passed rfl rfl rfl h1 ?_
  refine JL_passed rfl rfl rfl h1 ?_
  refine JL_q wn rfl (ex_pick_true rfl h1 rfl) ?_
  refine JL_nt ?_
  refine J_if_true rfl rfl ?_
  refine J_sr ?_
  refine JL_bnd fun r2 hr3 => ?_
  refine JL_call wn rfl Try.call32 rfl (Ca_self (fun _ => rfl) fun w hh => c_spec_l21Nil _ w (fun _ hk => hk.elim)  _ hr3) (fun x4 => ?_)
  refine JA rfl rfl ?_
  refine JL_nt ?_
  refine J_ret ?_
  refine N_then_ret ?_
  exact N_ret1 rfl (rv_tmp rfl) (fun w hh => ⟨x4, rfl, hh.sel [0, 2, 3, 4] rfl⟩)
 ·refine JL_q (wants_some rfl rfl rfl h1) rfl (ex_move rfl) ?_
  refine JL_bnd fun r5 hr6 => ?_
  refine JL_callT (wants_some rfl rfl rfl h1) rfl Try.call26 rfl (CaT_of [1] [0, 2, 3] rfl rfl (fun _ => rfl) fun w hh => c_spec_l00Src_one w b0_ p0 v0_0 _ rfl (hh.handed [1] rfl rfl rfl rfl) (hh.apart [1] rfl (hh.rd 0 rfl)) _ _ hr6) (fun _ => ?_)
  refine JL_q wn rfl (ex_pick_false rfl h1 rfl) ?_
  refine JL_nt ?_
  refine J_if rfl (fun h7 => ?_) (fun h7 => ?_)
  ·refine J_sr ?_
   refine JL_bnd fun r8 hr9 => ?_
   refine JL_call wn rfl Try.call32 rfl (Ca_self (fun _ => rfl) fun w hh => c_spec_l21Nil _ w (fun _ hk => hk.elim)  _ hr9) (fun x10 => ?_)
   refine JA rfl rfl ?_
   refine JL_nt ?_
   refine J_ret ?_
   refine N_then_ret ?_
   exact N_ret1 rfl (rv_tmp rfl) (fun w hh => ⟨x10, rfl, hh.sel [0, 1, 3, 4] rfl⟩)
  ·refine J_skip ?_
   refine N_then ?_
   refine J_sr ?_
   refine JM rfl rfl ?_
   refine JM rfl rfl ?_
   refine JL_q wn rfl (ex_sub rfl rfl) ?_
   refine JL_bnd fun r11 hr12 => ?_
   refine JL_callT wn rfl Try.call15 rfl (CaT_of [0] [1, 2, 3] rfl rfl (fun _ => rfl) fun w hh => ih_ w b0_ (⟨p0.code, r5.2.1, r5.2.2⟩ : Gl00Src) v0_0 _ rfl (hh.handed [0] rfl rfl rfl rfl) (hh.apart [0] rfl (hh.rd 1 rfl)) _ _ hr12) (fun x13 => ?_)
   refine JA rfl rfl ?_
   refine JL_nt ?_
   refine J_sr ?_
   refine JM rfl rfl ?_
   refine JM rfl rfl ?_
   refine JL_q wn rfl (ex_sub rfl rfl) ?_
   refine JL_bnd fun r14 hr15 => ?_
   refine JL_callT wn rfl Try.call15 rfl (CaT_of [1] [0, 2, 3, 4] rfl rfl (fun _ => rfl) fun w hh => ih_ w b0_ (⟨p0.code, r11.2.1, r11.2.2⟩ : Gl00Src) v0_0 _ rfl (hh.handed [1] rfl rfl rfl rfl) (hh.apart [1] rfl (hh.rd 2 rfl)) _ _ hr15) (fun x16 => ?_)
   refine JA rfl rfl ?_
   refine JL_nt ?_
   refine J_sr ?_
   refine JM rfl rfl ?_
   refine JM rfl rfl ?_
   refine JL_bnd fun r17 hr18 => ?_
   refine JL_call wn rfl Try.call33 rfl (Ca_self (fun _ => rfl) fun w hh => c_spec_l21Pair _ w (fun _ hk => hk.elim) _ _ (hh.ow0 2 rfl) _ _ (hh.ow0 0 rfl) _ hr18) (fun x19 => ?_)
   refine JA rfl rfl ?_
   refine JL_nt ?_
   refine J_ret ?_
   exact N_ret1 rfl (rv_tmp rfl) (fun w hh => ⟨x19, rfl, hh.sel [0, 2, 5, 6] rfl⟩)
theorem c_spec_l21DrawDeep (w : World) (b0_ : Nat) (p0 : Gl00Src) (v0_0 : Value) (B_ : List Nat) (hB_ : Ctx.owns [.bx b0_ 58 [v0_0, .int .i64 p0.at_, .int .u64 p0.seed.val]] = B_) (hn_ : PHanded w [.bx b0_ 58 [v0_0, .int .i64 p0.at_, .int .u64 p0.seed.val]]) (hp0_0 : Rd (fun k => k ∈ B_) w v0_0 p0.code) (p1 : Int) (r : ((List Bool)) × (Int × (Ik .u64))) (hr : F_spec_l21DrawDeep p0 p1 = some r) :
  PtrCon Try.prog 15 [.pointer (some ⟨b0_, 0, none⟩), .int .i64 p1] w B_ (fun x_ : Value => x_) (fun x_ => [.ow 4 x_ r.1, .bx b0_ 58 [v0_0, .int .i64 r.2.1, .int .u64 r.2.2.val]]) := by
 obtain ⟨k_, hk_⟩ := fixR_some hr
 exact c_spec_l21DrawDeep_ind k_ w b0_ p0 v0_0 B_ hB_ hn_ hp0_0 p1 r hk_
set_option maxHeartbeats 40000000 in
theorem c_spec_R8While (A : Nat → Prop) (w : World) (hA : ∀ k, A k → k < w.heap.size) (v0_ : Value) (p0 : (List (Ik .u8))) (hp0 : Rd A w v0_ p0) (r : (List GCommand) × (List Bool)) (hr : F_spec_R8While p0 = some r) :
  Con Try.prog 5 [v0_] A w (fun x_ : Value × List Nat × Value => .tuple #[x_.1, x_.2.2]) (fun x_ => [.od 54 x_.1 r.1 x_.2.1, .ow 4 x_.2.2 r.2]) := by
 refine Con_of (v := fun (r : (List GCommand) × (List Bool)) (x_ : Value × List Nat × Value) => .tuple #[x_.1, x_.2.2]) (fs := fun r x_ => [.od 54 x_.1 r.1 x_.2.1, .ow 4 x_.2.2 r.2]) Try.func5 rfl Try.ntmps5 rfl ((SH.start hA).start_rd rfl hp0) rfl ?_ hr
 unfold F_spec_R8While
 refine J_sr ?_
 refine JA rfl rfl ?_
 refine JA rfl rfl ?_
 refine JL_nt ?_
 refine J_sr ?_
 refine JM rfl rfl ?_
 refine JL_bnd fun r1 hr2 => ?_
 refine JL_call wn rfl Try.call13 rfl (Ca_self (fun _ => rfl) fun w hh => c_spec_l00From _ w (fun _ hk => hk.elim) _ _ (hh.rd0 0 rfl) _ hr2) (fun x3 => ?_)
 obtain ⟨x3_0, x3_1⟩ := x3
 refine JL_ctx (fun w hh => hh.sub_rd 2 rfl (hh.pr 0 rfl)) ?_
 refine JA rfl rfl ?_
 refine JL_nt ?_
 refine J_sr ?_
 refine JM rfl rfl ?_
 refine JL_bnd fun r4 hr5 => ?_
 refine JL_callT wn rfl Try.call14 rfl (CaT_of [2] [0, 1, 3] rfl rfl (fun _ => rfl) fun w hh => c_spec_l23DrawOk w x3_1 (⟨r1.1, r1.2.1, r1.2.2⟩ : Gl00Src) x3_0 _ rfl (hh.handed [2] rfl rfl rfl rfl) (hh.apart [2] rfl (hh.rd 0 rfl)) _ hr5) (fun x6 => ?_)
 obtain ⟨x6_0, x6_1⟩ := x6
 refine JA rfl rfl ?_
 refine JL_nt ?_
 refine J_sr ?_
 refine JM rfl rfl ?_
 refine JM rfl rfl ?_
 refine JL_bnd fun r7 hr8 => ?_
 refine JL_callT wn rfl Try.call15 rfl (CaT_of [1] [0, 2, 3, 4] rfl rfl (fun _ => rfl) fun w hh => c_spec_l21DrawDeep w x3_1 (⟨r1.1, r4.2.1, r4.2.2⟩ : Gl00Src) x3_0 _ rfl (hh.handed [1] rfl rfl rfl rfl) (hh.apart [1] rfl (hh.rd 2 rfl)) _ _ hr8) (fun x9 => ?_)
 refine JA rfl rfl ?_
 refine JA rfl rfl ?_
 refine JL_nt ?_
 refine J_ret ?_
 exact N_ret2 rfl (rv_tmp rfl) (rv_tmp rfl) (fun w hh => ⟨(x6_0, x6_1, x9), rfl, hh.sel [2, 0] rfl⟩)
set_option maxHeartbeats 40000000 in
theorem c_impl_size_impl_Expr (A : Nat → Prop) (w : World) (hA : ∀ k, A k → k < w.heap.size) (v0_ : Value) (p0 : (List GExpr)) (hp0 : Rd A w v0_ p0) (r : Int) (hr : F_impl_size_impl_Expr p0 = some r) :
  Con Try.prog 85 [v0_] A w (fun x_ : Unit => .int .i64 r) (fun x_ => []) := by
 refine Con_of (v := fun (r : Int) (x_ : Unit) => .int .i64 r) (fs := fun r x_ => []) Try.func85 rfl Try.ntmps85 rfl ((SH.start hA).start_rd rfl hp0) rfl ?_ hr
 unfold F_impl_size_impl_Expr
 refine J_sr ?_
 refine JA rfl rfl ?_
 refine JL_nt ?_
 refine J_sr ?_
 refine JM rfl rfl ?_
 refine JL_q wn rfl (ex_len_rd 0 Try.underlying52 rfl rfl) ?_
 refine JA rfl rfl ?_
 refine JL_nt ?_
 refine J_ret ?_
 exact N_ret1 rfl (rv_tmp rfl) (fun w hh => ⟨(), rfl, hh.sel [] rfl⟩)
set_option maxHeartbeats 40000000 in
theorem c_impl_within (A : Nat → Prop) (w : World) (hA : ∀ k, A k → k < w.heap.size) (p0 : Int) (p1 : Int) (p2 : Int) (r : Bool) (hr : F_impl_within p0 p1 p2 = some r) :
  Con Try.prog 39 [.int .i64 p0, .int .i64 p1, .int .i64 p2] A w (fun x_ : Unit => .bool r) (fun x_ => []) := by
 refine Con_of (v := fun (r : Bool) (x_ : Unit) => .bool r) (fs := fun r x_ => []) Try.func39 rfl Try.ntmps39 rfl (SH.start hA) rfl ?_ hr
 unfold F_impl_within
 refine J_sr ?_
 refine JA rfl rfl ?_
 refine JL_nt ?_
 refine J_sr ?_
 refine JM rfl rfl ?_
 refine JM rfl rfl ?_
 refine JL_q wn rfl (ex_leq rfl rfl) ?_
 refine JM rfl rfl ?_
 refine JL_cond (fun h1 => ?_) (fun h1 => ?_)
 ·refine JL_q (wants_some rfl rfl rfl h1) rfl (ex_move rfl) ?_
  refine JL_q (wants_some rfl rfl rfl h1) rfl (ex_move rfl) ?_
  refine JL_q (wants_some rfl rfl rfl h1) rfl (ex_leq rfl rfl) ?_
  refine JL_q wn rfl (ex_pick_true rfl h1 rfl) ?_
  refine JA rfl rfl ?_
  refine JL_nt ?_
  refine J_ret ?_
  exact N_ret1 rfl (rv_tmp rfl) (fun w hh => ⟨(), rfl, hh.sel [] rfl⟩)
 ·refine JL_passed rfl rfl rfl h1 ?_
  refine JL_passed rfl rfl rfl h1 ?_
  refine JL_passed rfl rfl rfl h1 ?_
  refine JL_q wn rfl (ex_pick_false rfl h1 rfl) ?_
  refine JA rfl rfl ?_
  refine JL_nt ?_
  refine J_ret ?_
  exact N_ret1 rfl (rv_tmp rfl) (fun w hh => ⟨(), rfl, hh.sel [] rfl⟩)
set_option maxHeartbeats 40000000 in
theorem c_impl_isWhileVariable (A : Nat → Prop) (w : World) (hA : ∀ k, A k → k < w.heap.size) (p0 : Int) (r : Bool) (hr : F_impl_isWhileVariable p0 = some r) :
  Con Try.prog 74 [.int .i64 p0] A w (fun x_ : Unit => .bool r) (fun x_ => []) := by
 refine Con_of (v := fun (r : Bool) (x_ : Unit) => .bool r) (fs := fun r x_ => []) Try.func74 rfl Try.ntmps74 rfl (SH.start hA) rfl ?_ hr
 unfold F_impl_isWhileVariable
 refine J_sr ?_
 refine JA rfl rfl ?_
 refine JL_nt ?_
 refine J_sr ?_
 refine JM rfl rfl ?_
 refine JL_bnd fun r1 hr2 => ?_
 refine JL_call wn rfl Try.call39 rfl (Ca_of0 fun w hh => c_impl_within _ w (fun _ hk => hk.elim) _ _ _ _ hr2) (fun _ => ?_)
 refine JA rfl rfl ?_
 refine JL_nt ?_
 refine J_ret ?_
 exact N_ret1 rfl (rv_tmp rfl) (fun w hh => ⟨(), rfl, hh.sel [] rfl⟩)
set_option maxHeartbeats 40000000 in
theorem c_impl_termEnd_impl_Expr (A : Nat → Prop) (w : World) (hA : ∀ k, A k → k < w.heap.size) (v0_ : Value) (p0 : (List GExpr)) (hp0 : Rd A w v0_ p0) (p1 : Int) (v2_ : Value) (p2 : (GExpr → Option Int)) (hp2 : Clo Try.prog w v2_ p2 (.int .i64)) (r : Int) (hr : F_impl_termEnd_impl_Expr p0 p1 p2 = some r) :
  Con Try.prog 86 [v0_, .int .i64 p1, v2_] A w (fun x_ : Unit => .int .i64 r) (fun x_ => []) := by
 refine Con_of (v := fun (r : Int) (x_ : Unit) => .int .i64 r) (fs := fun r x_ => []) Try.func86 rfl Try.ntmps86 rfl ((SH.start hA).start_rd rfl hp0) rfl ?_ hr
 unfold F_impl_termEnd_impl_Expr
 refine J_sr ?_
 refine JA rfl rfl ?_
 refine JL_nt ?_
 refine J_seq ?_
 refine J_sr ?_
 refine JA rfl rfl ?_
 refine JL_nt ?_
 refine J_loop' (S := Int × Int) (G := Unit) (F_impl_termEnd_impl_Expr_L1 p0 p2) (fun s1 _ => [(0, v0_), (1, .int .i64 s1.1), (2, v2_), (7, .int .i64 s1.2)]) (fun s1 _ => [.rd v0_ p0]) (p1, 1) () ⟨rfl, rfl, rfl, rfl, trivial⟩ [0] rfl rfl (fun s1 g2 => ?_) (fun s1 g2 => ?_)
 ·unfold F_impl_termEnd_impl_Expr_L1
  refine J_seq ?_
  refine J_sr ?_
  refine JM rfl rfl ?_
  refine JL_q wn rfl (ex_gtr rfl rfl) ?_
  refine JL_nt ?_
  refine J_if rfl (fun h3 => ?_) (fun h3 => ?_)
  ·refine J_skip ?_
   refine N_then ?_
   refine J_seq ?_
   refine J_block ?_
   refine J_seq ?_
   refine J_sr ?_
   refine JM rfl rfl ?_
   refine JM rfl rfl ?_
   refine JL_q wn rfl (ex_len_rd 0 Try.underlying52 rfl rfl) ?_
   refine JL_q wn rfl (ex_geq rfl rfl) ?_
   refine JL_nt ?_
   refine J_if rfl (fun h4 => ?_) (fun h4 => ?_)
   ·refine J_sr ?_
    refine JA rfl rfl ?_
    refine JL_nt ?_
    refine J_ret ?_
    refine N_then_ret ?_
    refine N_block_ret ?_
    refine N_then_ret ?_
    refine N_round_ret ?_
    refine N_then_ret ?_
    exact N_ret1 rfl (rv_tmp rfl) (fun w hh => ⟨(), rfl, hh.sel [] rfl⟩)
   ·refine J_skip ?_
    refine N_then ?_
    refine J_region ?_
    refine JM rfl rfl ?_
    refine JM rfl rfl ?_
    refine JM rfl rfl ?_
    refine JM rfl rfl ?_
    refine JL_bnd fun y5 hy6 => ?_
    refine JL_st wn rfl (st_index 0 Try.underlying52 ti_67 rfl rfl rfl hy6) (fun q7 => ?_)
    refine JL_st wn rfl (st_load_pt_o 0 (GExpr.opens _) ti_67 rfl rfl) (fun _ => ?_)
    refine JL_bnd fun r9 hr10 => ?_
    refine JL_clo wn rfl hp2 rfl rfl (fun w hh => (GExpr.rdmk (Rd.mk_int _ _ _) (Rd.mk_int _ _ _))) hr10 ?_
    refine JL_q wn rfl (ex_sub rfl rfl) ?_
    refine JL_q wn rfl (ex_add rfl rfl) ?_
    refine JA rfl rfl ?_
    refine JL_nil ?_
    refine N_block ?_
    refine N_then ?_
    refine J_region ?_
    refine JM rfl rfl ?_
    refine JL_q wn rfl (ex_add rfl rfl) ?_
    refine JA rfl rfl ?_
    refine JL_nil ?_
    exact N_next' () ⟨rfl, rfl, rfl, rfl, trivial⟩ [1] rfl rfl
  ·refine J_exit ?_
   refine N_then_exit ?_
   exact N_break' () ⟨rfl, rfl, rfl, rfl, trivial⟩ [0] rfl rfl
 ·refine N_then ?_
  refine J_sr ?_
  refine JM rfl rfl ?_
  refine JA rfl rfl ?_
  refine JL_nt ?_
  refine J_ret ?_
  exact N_ret1 rfl (rv_tmp rfl) (fun w hh => ⟨(), rfl, hh.sel [] rfl⟩)
set_option maxHeartbeats 40000000 in
theorem c_impl_exprFollow (A : Nat → Prop) (w : World) (hA : ∀ k, A k → k < w.heap.size) (v0_ : Value) (p0 : GExpr) (hp0 : Rd A w v0_ p0) (r : Int) (hr : F_impl_exprFollow p0 = some r) :
  Con Try.prog 81 [v0_] A w (fun x_ : Unit => .int .i64 r) (fun x_ => []) := by
 obtain rfl := GExpr.open hp0
 refine Con_of (v := fun (r : Int) (x_ : Unit) => .int .i64 r) (fs := fun r x_ => []) Try.func81 rfl Try.ntmps81 rfl (SH.start hA) rfl ?_ hr
 unfold F_impl_exprFollow
 refine J_sr ?_
 refine JL_st wn rfl (st_box' rfl (fun w hh => (cv_aggs ⟨cv_int, cv_int, trivial⟩))) (fun b1 => ?_)
 refine JA rfl rfl ?_
 refine JL_nt ?_
 refine J_seq ?_
 refine J_sr ?_
 refine JL_q wn rfl (ex_fieldAddr fi_67_0 rfl rfl) ?_
 refine JL_q wn rfl (ex_load_bx 0 ti_2 rfl rfl rfl) ?_
 refine JL_nt ?_
 refine J_block ?_
 refine J_seq ?_
 refine J_sr ?_
 refine JL_q wn rfl (ex_eql rfl rfl) ?_
 refine JA rfl rfl ?_
 refine JL_nt ?_
 refine J_if rfl (fun h2 => ?_) (fun h2 => ?_)
 ·refine J_skip ?_
  refine N_then ?_
  refine J_if_true rfl h2 ?_
  refine J_sr ?_
  refine JA rfl rfl ?_
  refine JL_nt ?_
  refine J_ret ?_
  refine N_block_ret ?_
  refine N_then_ret ?_
  exact N_ret1 rfl (rv_tmp rfl) (fun w hh => ⟨(), rfl, hh.sel [] rfl⟩)
 ·refine J_region ?_
  refine JL_q wn rfl (ex_eql rfl rfl) ?_
  refine JA rfl rfl ?_
  refine JL_nt ?_
  refine J_if rfl (fun h3 => ?_) (fun h3 => ?_)
  ·refine J_sr ?_
   refine JA rfl rfl ?_
   refine JL_nt ?_
   refine J_ret ?_
   refine N_block_ret ?_
   refine N_then_ret ?_
   exact N_ret1 rfl (rv_tmp rfl) (fun w hh => ⟨(), rfl, hh.sel [] rfl⟩)
  ·refine J_seq ?_
   refine J_sr ?_
   refine JL_q wn rfl (ex_eql rfl rfl) ?_
   refine JA rfl rfl ?_
   refine JL_nt ?_
   refine J_if rfl (fun h4 => ?_) (fun h4 => ?_)
   ·refine J_skip ?_
    refine N_then ?_
    refine J_if_true rfl h4 ?_
    refine J_sr ?_
    refine JA rfl rfl ?_
    refine JL_nt ?_
    refine J_ret ?_
    refine N_block_ret ?_
    refine N_then_ret ?_
    exact N_ret1 rfl (rv_tmp rfl) (fun w hh => ⟨(), rfl, hh.sel [] rfl⟩)
   ·refine J_region ?_
    refine JL_q wn rfl (ex_eql rfl rfl) ?_
    refine JA rfl rfl ?_
    refine JL_nt ?_
    refine J_if rfl (fun h5 => ?_) (fun h5 => ?_)
    ·refine J_sr ?_
     refine JA rfl rfl ?_
     refine JL_nt ?_
     refine J_ret ?_
     refine N_block_ret ?_
     refine N_then_ret ?_
     exact N_ret1 rfl (rv_tmp rfl) (fun w hh => ⟨(), rfl, hh.sel [] rfl⟩)
    ·refine J_skip ?_
     refine N_block ?_
     refine N_then ?_
     refine J_sr ?_
     refine JA rfl rfl ?_
     refine JL_nt ?_
     refine J_ret ?_
     exact N_ret1 rfl (rv_tmp rfl) (fun w hh => ⟨(), rfl, hh.sel [] rfl⟩)
set_option maxHeartbeats 40000000 in
theorem c_impl_ValidExpr (A : Nat → Prop) (w : World) (hA : ∀ k, A k → k < w.heap.size) (v0_ : Value) (p0 : (List GExpr)) (hp0 : Rd A w v0_ p0) (r : Bool) (hr : F_impl_ValidExpr p0 = some r) :
  Con Try.prog 73 [v0_] A w (fun x_ : Unit => .bool r) (fun x_ => []) := by
 refine Con_of (v := fun (r : Bool) (x_ : Unit) => .bool r) (fs := fun r x_ => []) Try.func73 rfl Try.ntmps73 rfl ((SH.start hA).start_rd rfl hp0) rfl ?_ hr
 unfold F_impl_ValidExpr
 refine J_sr ?_
 refine JA rfl rfl ?_
 refine JL_nt ?_
 refine J_seq ?_
 refine J_sr ?_
 refine JM rfl rfl ?_
 refine JL_bnd fun r1 hr2 => ?_
 refine JL_call wn rfl Try.call85 rfl (Ca_of0 fun w hh => c_impl_size_impl_Expr _ w (fun _ hk => hk.elim) _ _ (hh.rd0 0 rfl) _ hr2) (fun _ => ?_)
 refine JL_bnd fun r3 hr4 => ?_
 refine JL_call wn rfl Try.call39 rfl (Ca_of0 fun w hh => c_impl_within _ w (fun _ hk => hk.elim) _ _ _ _ hr4) (fun _ => ?_)
 refine JL_q wn rfl (ex_not rfl) ?_
 refine JL_nt ?_
 refine J_if rfl (fun h5 => ?_) (fun h5 => ?_)
 ·refine J_sr ?_
  refine JA rfl rfl ?_
  refine JL_nt ?_
  refine J_ret ?_
  refine N_then_ret ?_
  exact N_ret1 rfl (rv_tmp rfl) (fun w hh => ⟨(), rfl, hh.sel [] rfl⟩)
 ·refine J_skip ?_
  refine N_then ?_
  refine J_seq ?_
  refine J_sr ?_
  refine JM rfl rfl ?_
  refine JL_q wn rfl (ex_len_rd 0 Try.underlying52 rfl rfl) ?_
  refine JM rfl rfl ?_
  refine JL_nt ?_
  refine J_loop' (S := Int) (G := Unit) (F_impl_ValidExpr_L1 p0) (fun s6 _ => [(0, v0_), (9, v0_), (10, .int .i64 (p0.length : Int)), (11, .int .i64 s6)]) (fun s6 _ => [.rd v0_ p0]) 0 () ⟨rfl, rfl, rfl, rfl, trivial⟩ [0] rfl rfl (fun s6 g7 => ?_) (fun s6 g7 => ?_)
  ·unfold F_impl_ValidExpr_L1
   refine J_sr ?_
   refine JL_q wn rfl (ex_lss rfl rfl) ?_
   refine JL_nt ?_
   refine J_seq ?_
   refine J_if rfl (fun h8 => ?_) (fun h8 => ?_)
   ·refine J_skip ?_
    refine N_then ?_
    refine J_seq ?_
    refine J_block ?_
    refine J_sr ?_
    refine JL_bnd fun y9 hy10 => ?_
    refine JL_st wn rfl (st_index 0 Try.underlying52 ti_67 rfl rfl rfl hy10) (fun q11 => ?_)
    refine JL_st wn rfl (st_load_pt_o 0 (GExpr.opens _) ti_67 rfl rfl) (fun _ => ?_)
    refine JL_st wn rfl (st_alloc zi_67 rfl) (fun b13 => ?_)
    refine JL_sk wn (sk_store_bx' 0 ti_67 rfl rfl (fun w hh => (cv_aggs ⟨cv_int, cv_int, trivial⟩)) rfl rfl rfl rfl) ?_
    refine JL_nt ?_
    refine J_sr ?_
    refine JL_q wn rfl (ex_fieldAddr fi_67_0 rfl rfl) ?_
    refine JL_q wn rfl (ex_load_bx 0 ti_2 rfl rfl rfl) ?_
    refine JL_bnd fun r14 hr15 => ?_
    refine JL_call wn rfl Try.call39 rfl (Ca_of0 fun w hh => c_impl_within _ w (fun _ hk => hk.elim) _ _ _ _ hr15) (fun _ => ?_)
    refine JL_q wn rfl (ex_not rfl) ?_
    refine JM rfl rfl ?_
    refine JL_cond (fun h16 => ?_) (fun h16 => ?_)
    ·refine JL_passed rfl rfl rfl h16 ?_
     refine JL_passed rfl rfl rfl h16 ?_
     refine JL_passed rfl rfl rfl h16 ?_
     refine JL_passed rfl rfl rfl h16 ?_
     refine JL_q wn rfl (ex_pick_true rfl h16 rfl) ?_
     refine JM rfl rfl ?_
     refine JL_passed rfl rfl rfl rfl ?_
     refine JL_passed rfl rfl rfl rfl ?_
     refine JL_passed rfl rfl rfl rfl ?_
     refine JL_passed rfl rfl rfl rfl ?_
     refine JL_passed_undef rfl rfl rfl ?_
     refine JL_passed_undef rfl rfl rfl ?_
     refine JL_passed_undef rfl rfl rfl ?_
     refine JL_passed rfl rfl rfl rfl ?_
     refine JL_q wn rfl (ex_pick_true rfl rfl rfl) ?_
     refine JL_nt ?_
     refine J_if_true rfl rfl ?_
     refine J_sr ?_
     refine JA rfl rfl ?_
     refine JL_nt ?_
     refine J_ret ?_
     refine N_block_ret ?_
     refine N_then_ret ?_
     refine N_round_ret ?_
     refine N_then_ret ?_
     exact N_ret1 rfl (rv_tmp rfl) (fun w hh => ⟨(), rfl, hh.sel [] rfl⟩)
    ·refine JL_q (wants_some rfl rfl rfl h16) rfl (ex_fieldAddr fi_67_1 rfl rfl) ?_
     refine JL_q (wants_some rfl rfl rfl h16) rfl (ex_load_bx 0 ti_2 rfl rfl rfl) ?_
     refine JL_bnd fun r17 hr18 => ?_
     refine JL_call (wants_some rfl rfl rfl h16) rfl Try.call74 rfl (Ca_of0 fun w hh => c_impl_isWhileVariable _ w (fun _ hk => hk.elim) _ _ hr18) (fun _ => ?_)
     refine JL_q (wants_some rfl rfl rfl h16) rfl (ex_not rfl) ?_
     refine JL_q wn rfl (ex_pick_false rfl h16 rfl) ?_
     refine JM rfl rfl ?_
     refine JL_cond (fun h19 => ?_) (fun h19 => ?_)
     ·refine JL_passed rfl rfl rfl h19 ?_
      refine JL_passed rfl rfl rfl h19 ?_
      refine JL_passed rfl rfl rfl h19 ?_
      refine JL_passed rfl rfl rfl h19 ?_
      refine JL_passed_undef rfl rfl rfl ?_
      refine JL_passed_undef rfl rfl rfl ?_
      refine JL_passed_undef rfl rfl rfl ?_
      refine JL_passed rfl rfl rfl h19 ?_
      refine JL_q wn rfl (ex_pick_true rfl h19 rfl) ?_
      refine JL_nt ?_
      refine J_if_true rfl rfl ?_
      refine J_sr ?_
      refine JA rfl rfl ?_
      refine JL_nt ?_
      refine J_ret ?_
      refine N_block_ret ?_
      refine N_then_ret ?_
      refine N_round_ret ?_
      refine N_then_ret ?_
      exact N_ret1 rfl (rv_tmp rfl) (fun w hh => ⟨(), rfl, hh.sel [] rfl⟩)
     ·refine JL_q (wants_some rfl rfl rfl h19) rfl (ex_fieldAddr fi_67_0 rfl rfl) ?_
      refine JL_q (wants_some rfl rfl rfl h19) rfl (ex_load_bx 0 ti_2 rfl rfl rfl) ?_
      refine JL_q (wants_some rfl rfl rfl h19) rfl (ex_neq rfl rfl) ?_
      refine JL_q (wants_some rfl rfl rfl h19) rfl (ex_move rfl) ?_
      refine JL_cond (fun h20 => ?_) (fun h20 => ?_)
      ·refine JL_q (wants_some rfl rfl rfl h20) rfl (ex_fieldAddr fi_67_1 rfl rfl) ?_
       refine JL_q (wants_some rfl rfl rfl h20) rfl (ex_load_bx 0 ti_2 rfl rfl rfl) ?_
       refine JL_q (wants_some rfl rfl rfl h20) rfl (ex_neq rfl rfl) ?_
       refine JL_q (wants_some rfl rfl rfl h19) rfl (ex_pick_true rfl h20 rfl) ?_
       refine JL_q wn rfl (ex_pick_false rfl h19 rfl) ?_
       refine JL_nt ?_
       refine J_if rfl (fun h21 => ?_) (fun h21 => ?_)
       ·refine J_sr ?_
        refine JA rfl rfl ?_
        refine JL_nt ?_
        refine J_ret ?_
        refine N_block_ret ?_
        refine N_then_ret ?_
        refine N_round_ret ?_
        refine N_then_ret ?_
        exact N_ret1 rfl (rv_tmp rfl) (fun w hh => ⟨(), rfl, hh.sel [] rfl⟩)
       ·refine J_skip ?_
        refine N_block ?_
        refine N_then ?_
        refine J_region ?_
        refine JL_q wn rfl (ex_add rfl rfl) ?_
        refine JM rfl rfl ?_
        refine JL_nil ?_
        exact N_next' () ⟨rfl, rfl, rfl, rfl, trivial⟩ [2] rfl rfl
      ·refine JL_passed rfl rfl rfl h20 ?_
       refine JL_passed rfl rfl rfl h20 ?_
       refine JL_passed rfl rfl rfl h20 ?_
       refine JL_q (wants_some rfl rfl rfl h19) rfl (ex_pick_false rfl h20 rfl) ?_
       refine JL_q wn rfl (ex_pick_false rfl h19 rfl) ?_
       refine JL_nt ?_
       refine J_if_false rfl rfl ?_
       refine J_skip ?_
       refine N_block ?_
       refine N_then ?_
       refine J_region ?_
       refine JL_q wn rfl (ex_add rfl rfl) ?_
       refine JM rfl rfl ?_
       refine JL_nil ?_
       exact N_next' () ⟨rfl, rfl, rfl, rfl, trivial⟩ [2] rfl rfl
   ·refine J_exit ?_
    refine N_then_exit ?_
    exact N_break' () ⟨rfl, rfl, rfl, rfl, trivial⟩ [0] rfl rfl
  ·refine N_then ?_
   refine J_sr ?_
   refine JM rfl rfl ?_
   refine JL_bnd fun r22 hr23 => ?_
   refine JL_call wn rfl Try.call86 rfl (Ca_of0 fun w hh => c_impl_termEnd_impl_Expr _ w (fun _ hk => hk.elim) _ _ (hh.rd0 0 rfl) _ _ _ (Clo.mk (caps := []) Try.call81 (fun w_ hb_ v_ x_ r_ hrd_ hr_ => c_impl_exprFollow nowhere w_ (fun _ hk => hk.elim) v_ x_ hrd_  _ hr_)) _ hr23) (fun _ => ?_)
   refine JM rfl rfl ?_
   refine JL_q wn rfl (ex_len_rd 0 Try.underlying52 rfl rfl) ?_
   refine JL_q wn rfl (ex_eql rfl rfl) ?_
   refine JA rfl rfl ?_
   refine JL_nt ?_
   refine J_ret ?_
   exact N_ret1 rfl (rv_tmp rfl) (fun w hh => ⟨(), rfl, hh.sel [] rfl⟩)
set_option maxHeartbeats 40000000 in
theorem c_impl_validCommands_ind : ∀ (k_ : Nat) (A : Nat → Prop) (w : World) (hA : ∀ k, A k → k < w.heap.size) (v0_ : Value) (p0 : (List GCommand)) (hp0 : Rd A w v0_ p0) (r : Bool) (hr : fixN (fun (rec_ : (List GCommand) → Option (Bool)) (a_ : (List GCommand)) => F_impl_validCommands_step (fun p0 => rec_ p0) a_) k_ p0 = some r),
  Con Try.prog 53 [v0_] A w (fun x_ : Unit => .bool r) (fun x_ => []) := by
 intro k_
 induction k_ with
 | zero => intro A w hA v0_ p0 hp0 r hr; cases hr
 | succ k_ ih_ =>
 intro A w hA v0_ p0 hp0 r hr
 replace hr : F_impl_validCommands_step (fun p0 => fixN (fun (rec_ : (List GCommand) → Option (Bool)) (a_ : (List GCommand)) => F_impl_validCommands_step (fun p0 => rec_ p0) a_) k_ p0) p0 = some r := hr
 refine Con_of (v := fun (r : Bool) (x_ : Unit) => .bool r) (fs := fun r x_ => []) Try.func53 rfl Try.ntmps53 rfl ((SH.start hA).start_rd rfl hp0) rfl ?_ hr
 unfold F_impl_validCommands_step
 refine J_sr ?_
 refine JA rfl rfl ?_
 refine JL_nt ?_
 refine J_seq ?_
 refine J_sr ?_
 refine JA rfl rfl ?_
 refine JL_nt ?_
 refine J_loop' (S := Int) (G := Unit) (F_impl_validCommands_L1 p0 (fun p0 => fixN (fun (rec_ : (List GCommand) → Option (Bool)) (a_ : (List GCommand)) => F_impl_validCommands_step (fun p0 => rec_ p0) a_) k_ p0)) (fun s1 _ => [(0, v0_), (3, .int .i64 s1)]) (fun s1 _ => [.rd v0_ p0]) 0 () ⟨rfl, rfl, trivial⟩ [0] rfl rfl (fun s1 g2 => ?_) (fun s1 g2 => ?_)
 ·unfold F_impl_validCommands_L1
  refine J_seq ?_
  refine J_sr ?_
  refine JM rfl rfl ?_
  refine JM rfl rfl ?_
  refine JL_q wn rfl (ex_len_rd 0 Try.underlying24 rfl rfl) ?_
  refine JL_q wn rfl (ex_lss rfl rfl) ?_
  refine JL_nt ?_
  refine J_if rfl (fun h3 => ?_) (fun h3 => ?_)
  ·refine J_skip ?_
   refine N_then ?_
   refine J_seq ?_
   refine J_block ?_
   refine J_sr ?_
   refine JM rfl rfl ?_
   refine JM rfl rfl ?_
   refine JL_bnd fun y4 hy5 => ?_
   refine JL_st wn rfl (st_index 0 Try.underlying24 ti_54 rfl rfl rfl hy5) (fun q6 => ?_)
   refine JL_st wn rfl (st_load_pt_o 0 (GCommand.opens _) ti_54 rfl rfl) (fun v7 => ?_)
   refine JL_st wn rfl (st_alloc zi_54 rfl) (fun b8 => ?_)
   refine JL_sk wn (sk_store_bx' 0 ti_54 rfl rfl (fun w hh => (cv_aggs ⟨cv_int, cv_int, cv_int, (hh.cv 1 rfl), trivial⟩)) rfl rfl rfl rfl) ?_
   refine JL_nt ?_
   refine J_seq ?_
   refine J_sr ?_
   refine JL_q wn rfl (ex_fieldAddr fi_54_3 rfl rfl) ?_
   refine JL_q wn rfl (ex_load_bx 0 ti_52 rfl rfl rfl) ?_
   refine JL_bnd fun r9 hr10 => ?_
   refine JL_call wn rfl Try.call73 rfl (Ca_of0 fun w hh => c_impl_ValidExpr _ w (fun _ hk => hk.elim) _ _ (hh.rd0 1 rfl) _ hr10) (fun _ => ?_)
   refine JL_q wn rfl (ex_not rfl) ?_
   refine JL_nt ?_
   refine J_if rfl (fun h11 => ?_) (fun h11 => ?_)
   ·refine J_sr ?_
    refine JA rfl rfl ?_
    refine JL_nt ?_
    refine J_ret ?_
    refine N_then_ret ?_
    refine N_block_ret ?_
    refine N_then_ret ?_
    refine N_round_ret ?_
    refine N_then_ret ?_
    exact N_ret1 rfl (rv_tmp rfl) (fun w hh => ⟨(), rfl, hh.sel [] rfl⟩)
   ·refine J_skip ?_
    refine N_then ?_
    refine J_sr ?_
    refine JL_q wn rfl (ex_fieldAddr fi_54_0 rfl rfl) ?_
    refine JL_q wn rfl (ex_load_bx 0 ti_2 rfl rfl rfl) ?_
    refine JL_nt ?_
    refine J_block ?_
    refine J_sr ?_
    refine JL_q wn rfl (ex_eql rfl rfl) ?_
    refine JA rfl rfl ?_
    refine JL_nt ?_
    refine J_if rfl (fun h12 => ?_) (fun h12 => ?_)
    ·refine J_sr ?_
     refine JL_q wn rfl (ex_fieldAddr fi_54_1 rfl rfl) ?_
     refine JL_q wn rfl (ex_load_bx 0 ti_2 rfl rfl rfl) ?_
     refine JL_bnd fun r13 hr14 => ?_
     refine JL_call wn rfl Try.call74 rfl (Ca_of0 fun w hh => c_impl_isWhileVariable _ w (fun _ hk => hk.elim) _ _ hr14) (fun _ => ?_)
     refine JL_q wn rfl (ex_not rfl) ?_
     refine JM rfl rfl ?_
     refine JL_cond (fun h15 => ?_) (fun h15 => ?_)
     ·refine JL_passed rfl rfl rfl h15 ?_
      refine JL_passed rfl rfl rfl h15 ?_
      refine JL_passed rfl rfl rfl h15 ?_
      refine JL_q wn rfl (ex_pick_true rfl h15 rfl) ?_
      refine JL_nt ?_
      refine J_if_true rfl rfl ?_
      refine J_sr ?_
      refine JA rfl rfl ?_
      refine JL_nt ?_
      refine J_ret ?_
      refine N_block_ret ?_
      refine N_block_ret ?_
      refine N_then_ret ?_
      refine N_round_ret ?_
      refine N_then_ret ?_
      exact N_ret1 rfl (rv_tmp rfl) (fun w hh => ⟨(), rfl, hh.sel [] rfl⟩)
     ·refine JL_q (wants_some rfl rfl rfl h15) rfl (ex_fieldAddr fi_54_2 rfl rfl) ?_
      refine JL_q (wants_some rfl rfl rfl h15) rfl (ex_load_bx 0 ti_2 rfl rfl rfl) ?_
      refine JL_q (wants_some rfl rfl rfl h15) rfl (ex_neq rfl rfl) ?_
      refine JL_q wn rfl (ex_pick_false rfl h15 rfl) ?_
      refine JL_nt ?_
      refine J_if rfl (fun h16 => ?_) (fun h16 => ?_)
      ·refine J_sr ?_
       refine JA rfl rfl ?_
       refine JL_nt ?_
       refine J_ret ?_
       refine N_block_ret ?_
       refine N_block_ret ?_
       refine N_then_ret ?_
       refine N_round_ret ?_
       refine N_then_ret ?_
       exact N_ret1 rfl (rv_tmp rfl) (fun w hh => ⟨(), rfl, hh.sel [] rfl⟩)
      ·refine J_skip ?_
       refine N_block ?_
       refine N_block ?_
       refine N_then ?_
       refine J_region ?_
       refine JM rfl rfl ?_
       refine JL_q wn rfl (ex_add rfl rfl) ?_
       refine JA rfl rfl ?_
       refine JL_nil ?_
       exact N_next' () ⟨rfl, rfl, trivial⟩ [3] rfl rfl
    ·refine J_sr ?_
     refine JL_q wn rfl (ex_eql rfl rfl) ?_
     refine JA rfl rfl ?_
     refine JL_nt ?_
     refine J_if rfl (fun h17 => ?_) (fun h17 => ?_)
     ·refine J_seq ?_
      refine J_sr ?_
      refine JL_q wn rfl (ex_fieldAddr fi_54_1 rfl rfl) ?_
      refine JL_q wn rfl (ex_load_bx 0 ti_2 rfl rfl rfl) ?_
      refine JL_q wn rfl (ex_neq rfl rfl) ?_
      refine JM rfl rfl ?_
      refine JL_cond (fun h18 => ?_) (fun h18 => ?_)
      ·refine JL_passed rfl rfl rfl h18 ?_
       refine JL_passed rfl rfl rfl h18 ?_
       refine JL_passed rfl rfl rfl h18 ?_
       refine JL_passed rfl rfl rfl h18 ?_
       refine JL_passed rfl rfl rfl h18 ?_
       refine JL_passed rfl rfl rfl h18 ?_
       refine JL_passed rfl rfl rfl h18 ?_
       refine JL_passed rfl rfl rfl h18 ?_
       refine JL_passed rfl rfl rfl h18 ?_
       refine JL_q wn rfl (ex_pick_true rfl h18 rfl) ?_
       refine JM rfl rfl ?_
       refine JL_passed rfl rfl rfl rfl ?_
       refine JL_passed rfl rfl rfl rfl ?_
       refine JL_passed rfl rfl rfl rfl ?_
       refine JL_passed rfl rfl rfl rfl ?_
       refine JL_passed rfl rfl rfl rfl ?_
       refine JL_passed rfl rfl rfl rfl ?_
       refine JL_passed rfl rfl rfl rfl ?_
       refine JL_passed rfl rfl rfl rfl ?_
       refine JL_passed rfl rfl rfl rfl ?_
       refine JL_passed rfl rfl rfl rfl ?_
       refine JL_passed rfl rfl rfl rfl ?_
       refine JL_q wn rfl (ex_pick_true rfl rfl rfl) ?_
       refine JL_nt ?_
       refine J_if_true rfl rfl ?_
       refine J_sr ?_
       refine JA rfl rfl ?_
       refine JL_nt ?_
       refine J_ret ?_
       refine N_then_ret ?_
       refine N_block_ret ?_
       refine N_block_ret ?_
       refine N_then_ret ?_
       refine N_round_ret ?_
       refine N_then_ret ?_
       exact N_ret1 rfl (rv_tmp rfl) (fun w hh => ⟨(), rfl, hh.sel [] rfl⟩)
      ·refine JL_q (wants_some rfl rfl rfl h18) rfl (ex_fieldAddr fi_54_2 rfl rfl) ?_
       refine JL_q (wants_some rfl rfl rfl h18) rfl (ex_load_bx 0 ti_2 rfl rfl rfl) ?_
       refine JL_q (wants_some rfl rfl rfl h18) rfl (ex_move rfl) ?_
       refine JL_q (wants_some rfl rfl rfl h18) rfl (ex_len_rd 3 Try.underlying24 rfl rfl) ?_
       refine JL_q (wants_some rfl rfl rfl h18) rfl (ex_move rfl) ?_
       refine JL_q (wants_some rfl rfl rfl h18) rfl (ex_sub rfl rfl) ?_
       refine JL_q (wants_some rfl rfl rfl h18) rfl (ex_sub rfl rfl) ?_
       refine JL_bnd fun r19 hr20 => ?_
       refine JL_call (wants_some rfl rfl rfl h18) rfl Try.call39 rfl (Ca_of0 fun w hh => c_impl_within _ w (fun _ hk => hk.elim) _ _ _ _ hr20) (fun _ => ?_)
       refine JL_q (wants_some rfl rfl rfl h18) rfl (ex_not rfl) ?_
       refine JL_q wn rfl (ex_pick_false rfl h18 rfl) ?_
       refine JM rfl rfl ?_
       refine JL_cond (fun h21 => ?_) (fun h21 => ?_)
       ·refine JL_passed rfl rfl rfl h21 ?_
        refine JL_passed rfl rfl rfl h21 ?_
        refine JL_passed rfl rfl rfl h21 ?_
        refine JL_passed rfl rfl rfl h21 ?_
        refine JL_passed rfl rfl rfl h21 ?_
        refine JL_passed rfl rfl rfl h21 ?_
        refine JL_passed rfl rfl rfl h21 ?_
        refine JL_passed rfl rfl rfl h21 ?_
        refine JL_passed rfl rfl rfl h21 ?_
        refine JL_passed rfl rfl rfl h21 ?_
        refine JL_passed rfl rfl rfl h21 ?_
        refine JL_q wn rfl (ex_pick_true rfl h21 rfl) ?_
        refine JL_nt ?_
        refine J_if_true rfl rfl ?_
        refine J_sr ?_
        refine JA rfl rfl ?_
        refine JL_nt ?_
        refine J_ret ?_
        refine N_then_ret ?_
        refine N_block_ret ?_
        refine N_block_ret ?_
        refine N_then_ret ?_
        refine N_round_ret ?_
        refine N_then_ret ?_
        exact N_ret1 rfl (rv_tmp rfl) (fun w hh => ⟨(), rfl, hh.sel [] rfl⟩)
       ·refine JL_q (wants_some rfl rfl rfl h21) rfl (ex_move rfl) ?_
        refine JL_q (wants_some rfl rfl rfl h21) rfl (ex_move rfl) ?_
        refine JL_q (wants_some rfl rfl rfl h21) rfl (ex_add rfl rfl) ?_
        refine JL_q (wants_some rfl rfl rfl h21) rfl (ex_move rfl) ?_
        refine JL_q (wants_some rfl rfl rfl h21) rfl (ex_add rfl rfl) ?_
        refine JL_q (wants_some rfl rfl rfl h21) rfl (ex_fieldAddr fi_54_2 rfl rfl) ?_
        refine JL_q (wants_some rfl rfl rfl h21) rfl (ex_load_bx 0 ti_2 rfl rfl rfl) ?_
        refine JL_q (wants_some rfl rfl rfl h21) rfl (ex_add rfl rfl) ?_
        refine JL_bnd fun z22 hz23 => ?_
        refine JL_st (wants_some rfl rfl rfl h21) rfl (st_slice 3 Try.underlying24 ti_54 rfl rfl rfl rfl hz23) (fun v24 => ?_)
        refine JL_bnd fun r25 hr26 => ?_
        refine JL_call (wants_some rfl rfl rfl h21) rfl Try.call53 rfl (Ca_of0 fun w hh => ih_ _ w (fun _ hk => hk.elim) _ _ (hh.rd0 0 rfl) _ hr26) (fun _ => ?_)
        refine JL_q (wants_some rfl rfl rfl h21) rfl (ex_not rfl) ?_
        refine JL_q wn rfl (ex_pick_false rfl h21 rfl) ?_
        refine JL_nt ?_
        refine J_if rfl (fun h27 => ?_) (fun h27 => ?_)
        ·refine J_sr ?_
         refine JA rfl rfl ?_
         refine JL_nt ?_
         refine J_ret ?_
         refine N_then_ret ?_
         refine N_block_ret ?_
         refine N_block_ret ?_
         refine N_then_ret ?_
         refine N_round_ret ?_
         refine N_then_ret ?_
         exact N_ret1 rfl (rv_tmp rfl) (fun w hh => ⟨(), rfl, hh.sel [] rfl⟩)
        ·refine J_skip ?_
         refine N_then ?_
         refine J_region ?_
         refine JM rfl rfl ?_
         refine JL_q wn rfl (ex_fieldAddr fi_54_2 rfl rfl) ?_
         refine JL_q wn rfl (ex_load_bx 1 ti_2 rfl rfl rfl) ?_
         refine JL_q wn rfl (ex_add rfl rfl) ?_
         refine JA rfl rfl ?_
         refine JL_nil ?_
         refine N_block ?_
         refine N_block ?_
         refine N_then ?_
         refine J_region ?_
         refine JM rfl rfl ?_
         refine JL_q wn rfl (ex_add rfl rfl) ?_
         refine JA rfl rfl ?_
         refine JL_nil ?_
         exact N_next' () ⟨rfl, rfl, trivial⟩ [4] rfl rfl
     ·refine J_sr ?_
      refine JA rfl rfl ?_
      refine JL_nt ?_
      refine J_ret ?_
      refine N_block_ret ?_
      refine N_block_ret ?_
      refine N_then_ret ?_
      refine N_round_ret ?_
      refine N_then_ret ?_
      exact N_ret1 rfl (rv_tmp rfl) (fun w hh => ⟨(), rfl, hh.sel [] rfl⟩)
  ·refine J_exit ?_
   refine N_then_exit ?_
   exact N_break' () ⟨rfl, rfl, trivial⟩ [0] rfl rfl
 ·refine N_then ?_
  refine J_sr ?_
  refine JA rfl rfl ?_
  refine JL_nt ?_
  refine J_ret ?_
  exact N_ret1 rfl (rv_tmp rfl) (fun w hh => ⟨(), rfl, hh.sel [] rfl⟩)
theorem c_impl_validCommands (A : Nat → Prop) (w : World) (hA : ∀ k, A k → k < w.heap.size) (v0_ : Value) (p0 : (List GCommand)) (hp0 : Rd A w v0_ p0) (r : Bool) (hr : F_impl_validCommands p0 = some r) :
  Con Try.prog 53 [v0_] A w (fun x_ : Unit => .bool r) (fun x_ => []) := by
 obtain ⟨k_, hk_⟩ := fixR_some hr
 exact c_impl_validCommands_ind k_ A w hA v0_ p0 hp0 r hk_
set_option maxHeartbeats 40000000 in
theorem c_impl_ValidWhile (A : Nat → Prop) (w : World) (hA : ∀ k, A k → k < w.heap.size) (v0_ : Value) (p0 : (List GCommand)) (hp0 : Rd A w v0_ p0) (r : Bool) (hr : F_impl_ValidWhile p0 = some r) :
  Con Try.prog 34 [v0_] A w (fun x_ : Unit => .bool r) (fun x_ => []) := by
 refine Con_of (v := fun (r : Bool) (x_ : Unit) => .bool r) (fs := fun r x_ => []) Try.func34 rfl Try.ntmps34 rfl ((SH.start hA).start_rd rfl hp0) rfl ?_ hr
 unfold F_impl_ValidWhile
 refine J_sr ?_
 refine JA rfl rfl ?_
 refine JL_nt ?_
 refine J_sr ?_
 refine JM rfl rfl ?_
 refine JL_q wn rfl (ex_len_rd 0 Try.underlying24 rfl rfl) ?_
 refine JL_q wn rfl (ex_leq rfl rfl) ?_
 refine JM rfl rfl ?_
 refine JL_cond (fun h1 => ?_) (fun h1 => ?_)
 ·refine JL_q (wants_some rfl rfl rfl h1) rfl (ex_move rfl) ?_
  refine JL_bnd fun r2 hr3 => ?_
  refine JL_call (wants_some rfl rfl rfl h1) rfl Try.call53 rfl (Ca_of0 fun w hh => c_impl_validCommands _ w (fun _ hk => hk.elim) _ _ (hh.rd0 0 rfl) _ hr3) (fun _ => ?_)
  refine JL_q wn rfl (ex_pick_true rfl h1 rfl) ?_
  refine JA rfl rfl ?_
  refine JL_nt ?_
  refine J_ret ?_
  exact N_ret1 rfl (rv_tmp rfl) (fun w hh => ⟨(), rfl, hh.sel [] rfl⟩)
 ·refine JL_passed rfl rfl rfl h1 ?_
  refine JL_passed rfl rfl rfl h1 ?_
  refine JL_q wn rfl (ex_pick_false rfl h1 rfl) ?_
  refine JA rfl rfl ?_
  refine JL_nt ?_
  refine J_ret ?_
  exact N_ret1 rfl (rv_tmp rfl) (fun w hh => ⟨(), rfl, hh.sel [] rfl⟩)
set_option maxHeartbeats 40000000 in
theorem c_slices_IndexFunc_Simpl_Command_impl_Command (A : Nat → Prop) (w : World) (hA : ∀ k, A k → k < w.heap.size) (v0_ : Value) (p0 : (List GCommand)) (hp0 : Rd A w v0_ p0) (v1_ : Value) (p1 : (GCommand → Option Bool)) (hp1 : Clo Try.prog w v1_ p1 .bool) (r : Int) (hr : F_slices_IndexFunc_Simpl_Command_impl_Command p0 p1 = some r) :
  Con Try.prog 75 [v0_, v1_] A w (fun x_ : Unit => .int .i64 r) (fun x_ => []) := by
 refine Con_of (v := fun (r : Int) (x_ : Unit) => .int .i64 r) (fs := fun r x_ => []) Try.func75 rfl Try.ntmps75 rfl ((SH.start hA).start_rd rfl hp0) rfl ?_ hr
 unfold F_slices_IndexFunc_Simpl_Command_impl_Command
 refine J_sr ?_
 refine JA rfl rfl ?_
 refine JL_nt ?_
 refine J_seq ?_
 refine J_sr ?_
 refine JM rfl rfl ?_
 refine JL_q wn rfl (ex_len_rd 0 Try.underlying24 rfl rfl) ?_
 refine JM rfl rfl ?_
 refine JL_nt ?_
 refine J_loop' (S := Int) (G := Unit) (F_slices_IndexFunc_Simpl_Command_impl_Command_L1 p0 p1) (fun s1 _ => [(0, v0_), (1, v1_), (7, .int .i64 (p0.length : Int)), (8, .int .i64 s1)]) (fun s1 _ => [.rd v0_ p0]) 0 () ⟨rfl, rfl, rfl, rfl, trivial⟩ [0] rfl rfl (fun s1 g2 => ?_) (fun s1 g2 => ?_)
 ·unfold F_slices_IndexFunc_Simpl_Command_impl_Command_L1
  refine J_sr ?_
  refine JL_q wn rfl (ex_lss rfl rfl) ?_
  refine JL_nt ?_
  refine J_seq ?_
  refine J_if rfl (fun h3 => ?_) (fun h3 => ?_)
  ·refine J_skip ?_
   refine N_then ?_
   refine J_seq ?_
   refine J_block ?_
   refine J_sr ?_
   refine JM rfl rfl ?_
   refine JA rfl rfl ?_
   refine JL_nt ?_
   refine J_sr ?_
   refine JM rfl rfl ?_
   refine JM rfl rfl ?_
   refine JM rfl rfl ?_
   refine JL_bnd fun y4 hy5 => ?_
   refine JL_st wn rfl (st_index 0 Try.underlying24 ti_54 rfl rfl rfl hy5) (fun q6 => ?_)
   refine JL_st wn rfl (st_load_pt_o 0 (GCommand.opens _) ti_54 rfl rfl) (fun v7 => ?_)
   refine JL_bnd fun r8 hr9 => ?_
   refine JL_clo wn rfl hp1 rfl rfl (fun w hh => (GCommand.rdmk (Rd.mk_int _ _ _) (Rd.mk_int _ _ _) (Rd.mk_int _ _ _) (hh.rd0 0 rfl))) hr9 ?_
   refine JL_nt ?_
   refine J_if rfl (fun h10 => ?_) (fun h10 => ?_)
   ·refine J_sr ?_
    refine JM rfl rfl ?_
    refine JA rfl rfl ?_
    refine JL_nt ?_
    refine J_ret ?_
    refine N_block_ret ?_
    refine N_then_ret ?_
    refine N_round_ret ?_
    refine N_then_ret ?_
    exact N_ret1 rfl (rv_tmp rfl) (fun w hh => ⟨(), rfl, hh.sel [] rfl⟩)
   ·refine J_skip ?_
    refine N_block ?_
    refine N_then ?_
    refine J_region ?_
    refine JL_q wn rfl (ex_add rfl rfl) ?_
    refine JM rfl rfl ?_
    refine JL_nil ?_
    exact N_next' () ⟨rfl, rfl, rfl, rfl, trivial⟩ [2] rfl rfl
  ·refine J_exit ?_
   refine N_then_exit ?_
   exact N_break' () ⟨rfl, rfl, rfl, rfl, trivial⟩ [0] rfl rfl
 ·refine N_then ?_
  refine J_sr ?_
  refine JA rfl rfl ?_
  refine JL_nt ?_
  refine J_ret ?_
  exact N_ret1 rfl (rv_tmp rfl) (fun w hh => ⟨(), rfl, hh.sel [] rfl⟩)
set_option maxHeartbeats 40000000 in
theorem c_slices_ContainsFunc_Simpl_Command_impl_Command (A : Nat → Prop) (w : World) (hA : ∀ k, A k → k < w.heap.size) (v0_ : Value) (p0 : (List GCommand)) (hp0 : Rd A w v0_ p0) (v1_ : Value) (p1 : (GCommand → Option Bool)) (hp1 : Clo Try.prog w v1_ p1 .bool) (r : Bool) (hr : F_slices_ContainsFunc_Simpl_Command_impl_Command p0 p1 = some r) :
  Con Try.prog 54 [v0_, v1_] A w (fun x_ : Unit => .bool r) (fun x_ => []) := by
 refine Con_of (v := fun (r : Bool) (x_ : Unit) => .bool r) (fs := fun r x_ => []) Try.func54 rfl Try.ntmps54 rfl ((SH.start hA).start_rd rfl hp0) rfl ?_ hr
 unfold F_slices_ContainsFunc_Simpl_Command_impl_Command
 refine J_sr ?_
 refine JA rfl rfl ?_
 refine JL_nt ?_
 refine J_sr ?_
 refine JM rfl rfl ?_
 refine JM rfl rfl ?_
 refine JL_bnd fun r1 hr2 => ?_
 refine JL_call wn rfl Try.call75 rfl (Ca_of0 fun w hh => c_slices_IndexFunc_Simpl_Command_impl_Command _ w (fun _ hk => hk.elim) _ _ (hh.rd0 0 rfl) _ _ (hp1.later hh.below) _ hr2) (fun _ => ?_)
 refine JL_q wn rfl (ex_geq rfl rfl) ?_
 refine JA rfl rfl ?_
 refine JL_nt ?_
 refine J_ret ?_
 exact N_ret1 rfl (rv_tmp rfl) (fun w hh => ⟨(), rfl, hh.sel [] rfl⟩)
set_option maxHeartbeats 40000000 in
theorem c_slices_IndexFunc_Simpl_Expr_impl_Expr (A : Nat → Prop) (w : World) (hA : ∀ k, A k → k < w.heap.size) (v0_ : Value) (p0 : (List GExpr)) (hp0 : Rd A w v0_ p0) (v1_ : Value) (p1 : (GExpr → Option Bool)) (hp1 : Clo Try.prog w v1_ p1 .bool) (r : Int) (hr : F_slices_IndexFunc_Simpl_Expr_impl_Expr p0 p1 = some r) :
  Con Try.prog 87 [v0_, v1_] A w (fun x_ : Unit => .int .i64 r) (fun x_ => []) := by
 refine Con_of (v := fun (r : Int) (x_ : Unit) => .int .i64 r) (fs := fun r x_ => []) Try.func87 rfl Try.ntmps87 rfl ((SH.start hA).start_rd rfl hp0) rfl ?_ hr
 unfold F_slices_IndexFunc_Simpl_Expr_impl_Expr
 refine J_sr ?_
 refine JA rfl rfl ?_
 refine JL_nt ?_
 refine J_seq ?_
 refine J_sr ?_
 refine JM rfl rfl ?_
 refine JL_q wn rfl (ex_len_rd 0 Try.underlying52 rfl rfl) ?_
 refine JM rfl rfl ?_
 refine JL_nt ?_
 refine J_loop' (S := Int) (G := Unit) (F_slices_IndexFunc_Simpl_Expr_impl_Expr_L1 p0 p1) (fun s1 _ => [(0, v0_), (1, v1_), (7, .int .i64 (p0.length : Int)), (8, .int .i64 s1)]) (fun s1 _ => [.rd v0_ p0]) 0 () ⟨rfl, rfl, rfl, rfl, trivial⟩ [0] rfl rfl (fun s1 g2 => ?_) (fun s1 g2 => ?_)
 ·unfold F_slices_IndexFunc_Simpl_Expr_impl_Expr_L1
  refine J_sr ?_
  refine JL_q wn rfl (ex_lss rfl rfl) ?_
  refine JL_nt ?_
  refine J_seq ?_
  refine J_if rfl (fun h3 => ?_) (fun h3 => ?_)
  ·refine J_skip ?_
   refine N_then ?_
   refine J_seq ?_
   refine J_block ?_
   refine J_sr ?_
   refine JM rfl rfl ?_
   refine JA rfl rfl ?_
   refine JL_nt ?_
   refine J_sr ?_
   refine JM rfl rfl ?_
   refine JM rfl rfl ?_
   refine JM rfl rfl ?_
   refine JL_bnd fun y4 hy5 => ?_
   refine JL_st wn rfl (st_index 0 Try.underlying52 ti_67 rfl rfl rfl hy5) (fun q6 => ?_)
   refine JL_st wn rfl (st_load_pt_o 0 (GExpr.opens _) ti_67 rfl rfl) (fun _ => ?_)
   refine JL_bnd fun r8 hr9 => ?_
   refine JL_clo wn rfl hp1 rfl rfl (fun w hh => (GExpr.rdmk (Rd.mk_int _ _ _) (Rd.mk_int _ _ _))) hr9 ?_
   refine JL_nt ?_
   refine J_if rfl (fun h10 => ?_) (fun h10 => ?_)
   ·refine J_sr ?_
    refine JM rfl rfl ?_
    refine JA rfl rfl ?_
    refine JL_nt ?_
    refine J_ret ?_
    refine N_block_ret ?_
    refine N_then_ret ?_
    refine N_round_ret ?_
    refine N_then_ret ?_
    exact N_ret1 rfl (rv_tmp rfl) (fun w hh => ⟨(), rfl, hh.sel [] rfl⟩)
   ·refine J_skip ?_
    refine N_block ?_
    refine N_then ?_
    refine J_region ?_
    refine JL_q wn rfl (ex_add rfl rfl) ?_
    refine JM rfl rfl ?_
    refine JL_nil ?_
    exact N_next' () ⟨rfl, rfl, rfl, rfl, trivial⟩ [1] rfl rfl
  ·refine J_exit ?_
   refine N_then_exit ?_
   exact N_break' () ⟨rfl, rfl, rfl, rfl, trivial⟩ [0] rfl rfl
 ·refine N_then ?_
  refine J_sr ?_
  refine JA rfl rfl ?_
  refine JL_nt ?_
  refine J_ret ?_
  exact N_ret1 rfl (rv_tmp rfl) (fun w hh => ⟨(), rfl, hh.sel [] rfl⟩)
set_option maxHeartbeats 40000000 in
theorem c_slices_ContainsFunc_Simpl_Expr_impl_Expr (A : Nat → Prop) (w : World) (hA : ∀ k, A k → k < w.heap.size) (v0_ : Value) (p0 : (List GExpr)) (hp0 : Rd A w v0_ p0) (v1_ : Value) (p1 : (GExpr → Option Bool)) (hp1 : Clo Try.prog w v1_ p1 .bool) (r : Bool) (hr : F_slices_ContainsFunc_Simpl_Expr_impl_Expr p0 p1 = some r) :
  Con Try.prog 76 [v0_, v1_] A w (fun x_ : Unit => .bool r) (fun x_ => []) := by
 refine Con_of (v := fun (r : Bool) (x_ : Unit) => .bool r) (fs := fun r x_ => []) Try.func76 rfl Try.ntmps76 rfl ((SH.start hA).start_rd rfl hp0) rfl ?_ hr
 unfold F_slices_ContainsFunc_Simpl_Expr_impl_Expr
 refine J_sr ?_
 refine JA rfl rfl ?_
 refine JL_nt ?_
 refine J_sr ?_
 refine JM rfl rfl ?_
 refine JM rfl rfl ?_
 refine JL_bnd fun r1 hr2 => ?_
 refine JL_call wn rfl Try.call87 rfl (Ca_of0 fun w hh => c_slices_IndexFunc_Simpl_Expr_impl_Expr _ w (fun _ hk => hk.elim) _ _ (hh.rd0 0 rfl) _ _ (hp1.later hh.below) _ hr2) (fun _ => ?_)
 refine JL_q wn rfl (ex_geq rfl rfl) ?_
 refine JA rfl rfl ?_
 refine JL_nt ?_
 refine J_ret ?_
 exact N_ret1 rfl (rv_tmp rfl) (fun w hh => ⟨(), rfl, hh.sel [] rfl⟩)
set_option maxHeartbeats 40000000 in
theorem c_impl_onlyZero_1 (A : Nat → Prop) (w : World) (hA : ∀ k, A k → k < w.heap.size) (v0_ : Value) (p0 : GExpr) (hp0 : Rd A w v0_ p0) (r : Bool) (hr : F_impl_onlyZero_1 p0 = some r) :
  Con Try.prog 77 [v0_] A w (fun x_ : Unit => .bool r) (fun x_ => []) := by
 obtain rfl := GExpr.open hp0
 refine Con_of (v := fun (r : Bool) (x_ : Unit) => .bool r) (fs := fun r x_ => []) Try.func77 rfl Try.ntmps77 rfl (SH.start hA) rfl ?_ hr
 unfold F_impl_onlyZero_1
 refine J_sr ?_
 refine JL_st wn rfl (st_box' rfl (fun w hh => (cv_aggs ⟨cv_int, cv_int, trivial⟩))) (fun b1 => ?_)
 refine JA rfl rfl ?_
 refine JL_nt ?_
 refine J_sr ?_
 refine JL_q wn rfl (ex_fieldAddr fi_67_1 rfl rfl) ?_
 refine JL_q wn rfl (ex_load_bx 0 ti_2 rfl rfl rfl) ?_
 refine JL_q wn rfl (ex_neq rfl rfl) ?_
 refine JA rfl rfl ?_
 refine JL_nt ?_
 refine J_ret ?_
 exact N_ret1 rfl (rv_tmp rfl) (fun w hh => ⟨(), rfl, hh.sel [] rfl⟩)
set_option maxHeartbeats 40000000 in
theorem c_impl_onlyZero (A : Nat → Prop) (w : World) (hA : ∀ k, A k → k < w.heap.size) (v0_ : Value) (p0 : (List GExpr)) (hp0 : Rd A w v0_ p0) (r : Bool) (hr : F_impl_onlyZero p0 = some r) :
  Con Try.prog 56 [v0_] A w (fun x_ : Unit => .bool r) (fun x_ => []) := by
 refine Con_of (v := fun (r : Bool) (x_ : Unit) => .bool r) (fs := fun r x_ => []) Try.func56 rfl Try.ntmps56 rfl ((SH.start hA).start_rd rfl hp0) rfl ?_ hr
 unfold F_impl_onlyZero
 refine J_sr ?_
 refine JA rfl rfl ?_
 refine JL_nt ?_
 refine J_sr ?_
 refine JM rfl rfl ?_
 refine JL_bnd fun r1 hr2 => ?_
 refine JL_call wn rfl Try.call76 rfl (Ca_of0 fun w hh => c_slices_ContainsFunc_Simpl_Expr_impl_Expr _ w (fun _ hk => hk.elim) _ _ (hh.rd0 0 rfl) _ _ (Clo.mk (caps := []) Try.call77 (fun w_ hb_ v_ x_ r_ hrd_ hr_ => c_impl_onlyZero_1 nowhere w_ (fun _ hk => hk.elim) v_ x_ hrd_  _ hr_)) _ hr2) (fun _ => ?_)
 refine JL_q wn rfl (ex_not rfl) ?_
 refine JA rfl rfl ?_
 refine JL_nt ?_
 refine J_ret ?_
 exact N_ret1 rfl (rv_tmp rfl) (fun w hh => ⟨(), rfl, hh.sel [] rfl⟩)
end Go.Proofs.Ytlikagofgciflaa
