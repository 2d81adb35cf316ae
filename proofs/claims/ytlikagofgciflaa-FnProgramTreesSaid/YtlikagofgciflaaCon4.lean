/-
  Each function of the program computes what its plain function says: printed by program. No condition.
-/
import Derived.Test.YtlikagofgciflaaFn
import Derived.Test.YtlikagofgciflaaInf
import Derived.Test.YtlikagofgciflaaCon2
import Derived.Test.YtlikagofgciflaaCon3
namespace Go.Proofs.Ytlikagofgciflaa
open Go Go.Tc Go.Fn
set_option linter.unusedVariables false
theorem F_impl_tree_equal_reflS (rec_ : Tre → Tre → Option Bool) (hrec : ∀ x r, rec_ x x = some r → r = true) (x : Tre) (r : Bool) (h : F_impl_tree_equal_step rec_ x x = some r) : r = true := by
 cases x with
 | nil => exact (Option.some.inj h).symm
 | node a b n =>
  have hd : decide (n ≠ n) = false := by simp
  change (bnd ((cond (decide (n ≠ n)) (some (.ret false)) (some (.brk ()))) : Option (Out Unit Bool)) (Out.elim (fun (_ : Unit) => bnd (rec_ a a) fun r28 => (cond r28 (bnd (rec_ b b) fun r43 => some r43) (some false))) (fun (r : Bool) => some r))) = some r at h
  rw [hd] at h
  change (bnd (rec_ a a) fun r28 => (cond r28 (bnd (rec_ b b) fun r43 => some r43) (some false))) = some r at h
  cases h1 : rec_ a a with
  | none => rw [h1] at h; cases h
  | some r1 =>
   rw [h1] at h
   change (cond r1 (bnd (rec_ b b) fun r43 => some r43) (some false)) = some r at h
   rw [hrec _ _ h1] at h
   change (bnd (rec_ b b) fun r43 => some r43) = some r at h
   cases h2 : rec_ b b with
   | none => rw [h2] at h; cases h
   | some r2 =>
    rw [h2] at h
    rw [← Option.some.inj h]
    exact hrec _ _ h2
theorem F_impl_tree_equal_refl : ∀ (k : Nat) (x : Tre) (r : Bool), fixN (fun (rec_ : (Tre × Tre) → Option (Bool)) (a_ : Tre × Tre) => F_impl_tree_equal_step (fun p0 p1 => rec_ (p0, p1)) a_.1 a_.2) k (x, x) = some r → r = true
 | 0, _, _, h => by cases h
 | k + 1, x, r, h => F_impl_tree_equal_reflS (fun p0 p1 => fixN (fun (rec_ : (Tre × Tre) → Option (Bool)) (a_ : Tre × Tre) => F_impl_tree_equal_step (fun p0 p1 => rec_ (p0, p1)) a_.1 a_.2) k (p0, p1)) (F_impl_tree_equal_refl k) x r h
set_option maxHeartbeats 40000000 in
theorem c_impl_tree_equal_ind : ∀ (k_ : Nat) (A : Nat → Prop) (w : World) (hA : ∀ k, A k → k < w.heap.size) (v0_ : Value) (p0 : Tre) (hp0 : Rd A w v0_ p0) (v1_ : Value) (p1 : Tre) (hp1 : Rd A w v1_ p1) (r : Bool) (hr : fixN (fun (rec_ : (Tre × Tre) → Option (Bool)) (a_ : Tre × Tre) => F_impl_tree_equal_step (fun p0 p1 => rec_ (p0, p1)) a_.1 a_.2) k_ (p0, p1) = some r),
  Con Try.prog 64 [v0_, v1_] A w (fun x_ : Unit => .bool r) (fun x_ => []) := by
 intro k_
 induction k_ with
 | zero => intro A w hA v0_ p0 hp0 v1_ p1 hp1 r hr; cases hr
 | succ k_ ih_ =>
 intro A w hA v0_ p0 hp0 v1_ p1 hp1 r hr
 replace hr : F_impl_tree_equal_step (fun p0 p1 => fixN (fun (rec_ : (Tre × Tre) → Option (Bool)) (a_ : Tre × Tre) => F_impl_tree_equal_step (fun p0 p1 => rec_ (p0, p1)) a_.1 a_.2) k_ (p0, p1)) p0 p1 = some r := hr
 refine Con_of (v := fun (r : Bool) (x_ : Unit) => .bool r) (fs := fun r x_ => []) Try.func64 rfl Try.ntmps64 rfl (((SH.start hA).start_rd rfl hp0).start_rd rfl hp1) rfl ?_ hr
 unfold F_impl_tree_equal_step
 refine J_sr ?_
 refine JA rfl rfl ?_
 refine JL_nt ?_
 refine J_seq ?_
 refine J_sr ?_
 refine JM rfl rfl ?_
 refine JM rfl rfl ?_
 refine JL_eqtr 1 0 Try.underlying41 ti_77 (by kernel_rfl) wn rfl rfl rfl rfl rfl (fun b1 hb2 => ?_)
 refine JL_nt ?_
 refine J_ifE rfl (fun h3 => ?_) (fun h3 => ?_)
 ·refine J_weak (E' := some true) (fun r_ he_ => by obtain rfl : p0 = p1 := hb2.1 h3; exact congrArg some (F_impl_tree_equal_reflS (fun p0 p1 => fixN (fun (rec_ : (Tre × Tre) → Option (Bool)) (a_ : Tre × Tre) => F_impl_tree_equal_step (fun p0 p1 => rec_ (p0, p1)) a_.1 a_.2) k_ (p0, p1)) (F_impl_tree_equal_refl k_) _ _ he_).symm) ?_
  refine J_sr ?_
  refine JA rfl rfl ?_
  refine JL_nt ?_
  refine J_ret ?_
  refine N_then_ret ?_
  exact N_ret1 rfl (rv_tmp rfl) (fun w hh => ⟨(), rfl, hh.sel [] rfl⟩)
 ·refine J_weak (E' := (bnd ((cond (p0.isNil) (some (.ret false)) (cond (p1.isNil) (some (.ret false)) (bnd (Tre.cells p0) fun y8 => bnd (Tre.cells p1) fun y12 => (cond (decide (y8.nodes ≠ y12.nodes)) (some (.ret false)) (some (.brk ())))))) : Option (Out (Unit) Bool)) (Out.elim (fun (s4 : Unit) => bnd (Tre.cells p0) fun y17 => bnd (Tre.cells p1) fun y21 => bnd ((fun p0 p1 => fixN (fun (rec_ : (Tre × Tre) → Option (Bool)) (a_ : Tre × Tre) => F_impl_tree_equal_step (fun p0 p1 => rec_ (p0, p1)) a_.1 a_.2) k_ (p0, p1)) y17.head y21.head) fun r28 => (cond r28 (bnd (Tre.cells p0) fun y31 => bnd (Tre.cells p1) fun y37 => bnd ((fun p0 p1 => fixN (fun (rec_ : (Tre × Tre) → Option (Bool)) (a_ : Tre × Tre) => F_impl_tree_equal_step (fun p0 p1 => rec_ (p0, p1)) a_.1 a_.2) k_ (p0, p1)) y31.tail y37.tail) fun r43 => some r43) (some false))) (fun (r : Bool) => some r)))) (fun r_ he_ => by rw [hb2.2 h3] at he_; exact he_) ?_
  refine J_skip ?_
  refine N_then ?_
  refine J_seq ?_
  refine J_cut' (S' := Unit) (G' := Unit) (fun _ _ => [(0, v0_), (1, v1_)]) (fun _ _ => [.rd v0_ p0, .rd v1_ p1]) ?_ (fun s4 g5 => ?_)
  ·refine J_seq ?_
   refine J_draw [] (by kernel_rfl) ?_
   refine JP_take (i := 0) [0, 1] [] rfl (by kernel_rfl) (by kernel_rfl) (by kernel_rfl) rfl rfl wn rfl (ex_move rfl) ?_
   refine JP_take (i := 1) [0, 1] [] rfl (by kernel_rfl) (by kernel_rfl) (by kernel_rfl) rfl rfl wn rfl (ex_eq_tr 1 Try.underlying41 rfl rfl rfl) ?_
   refine JP_take (i := 2) [0, 1] [] rfl (by kernel_rfl) (by kernel_rfl) (by kernel_rfl) rfl rfl wn rfl (ex_move rfl) ?_
   refine JP_cond (fun h6 => ?_) (fun h6 => ?_)
   ·refine JP_pass (i := 3) rfl (by kernel_rfl) (by kernel_rfl) (by kernel_rfl) rfl rfl h6 rfl ?_
    refine JP_pass (i := 4) rfl (by kernel_rfl) (by kernel_rfl) (by kernel_rfl) rfl rfl h6 rfl ?_
    refine JP_take (i := 5) [0, 1] [] rfl (by kernel_rfl) (by kernel_rfl) (by kernel_rfl) rfl rfl wn rfl (ex_pick_true rfl h6 rfl) ?_
    refine JP_take (i := 6) [0, 1] [] rfl (by kernel_rfl) (by kernel_rfl) (by kernel_rfl) rfl rfl wn rfl (ex_move rfl) ?_
    refine JP_pass (i := 7) rfl (by kernel_rfl) (by kernel_rfl) (by kernel_rfl) rfl rfl rfl rfl ?_
    refine JP_pass (i := 8) rfl (by kernel_rfl) (by kernel_rfl) (by kernel_rfl) rfl rfl rfl rfl ?_
    refine JP_pass (i := 9) rfl (by kernel_rfl) (by kernel_rfl) (by kernel_rfl) rfl rfl rfl rfl ?_
    refine JP_pass (i := 10) rfl (by kernel_rfl) (by kernel_rfl) (by kernel_rfl) rfl rfl rfl rfl ?_
    refine JP_pass (i := 11) rfl (by kernel_rfl) (by kernel_rfl) (by kernel_rfl) rfl rfl rfl rfl ?_
    refine JP_pass (i := 12) rfl (by kernel_rfl) (by kernel_rfl) (by kernel_rfl) rfl rfl rfl rfl ?_
    refine JP_pass (i := 13) rfl (by kernel_rfl) (by kernel_rfl) (by kernel_rfl) rfl rfl rfl rfl ?_
    refine JP_pass (i := 14) rfl (by kernel_rfl) (by kernel_rfl) (by kernel_rfl) rfl rfl rfl rfl ?_
    refine JP_pass (i := 15) rfl (by kernel_rfl) (by kernel_rfl) (by kernel_rfl) rfl rfl rfl rfl ?_
    refine JP_take (i := 16) [0, 1] [] rfl (by kernel_rfl) (by kernel_rfl) (by kernel_rfl) rfl rfl wn rfl (ex_pick_true rfl rfl rfl) ?_
    refine JP_go [] [] rfl rfl rfl (fun _ _ _ => ?_)
    refine JD_done (by kernel_rfl) ?_
    refine N_then ?_
    refine J_if_true rfl rfl ?_
    refine J_sr ?_
    refine JA rfl rfl ?_
    refine JL_nt ?_
    refine J_ret ?_
    refine N_mid_ret ?_
    refine N_then_ret ?_
    exact N_ret1 rfl (rv_tmp rfl) (fun w hh => ⟨(), rfl, hh.sel [] rfl⟩)
   ·refine JP_take (i := 3) [0, 1] [] rfl (by kernel_rfl) (by kernel_rfl) (by kernel_rfl) rfl rfl (wants_some rfl rfl rfl h6) rfl (ex_move rfl) ?_
    refine JP_take (i := 4) [0, 1] [] rfl (by kernel_rfl) (by kernel_rfl) (by kernel_rfl) rfl rfl (wants_some rfl rfl rfl h6) rfl (ex_eq_tr 0 Try.underlying41 rfl rfl rfl) ?_
    refine JP_take (i := 5) [0, 1] [] rfl (by kernel_rfl) (by kernel_rfl) (by kernel_rfl) rfl rfl wn rfl (ex_pick_false rfl h6 rfl) ?_
    refine JP_take (i := 6) [0, 1] [] rfl (by kernel_rfl) (by kernel_rfl) (by kernel_rfl) rfl rfl wn rfl (ex_move rfl) ?_
    refine JP_cond (fun h7 => ?_) (fun h7 => ?_)
    ·refine JP_pass (i := 7) rfl (by kernel_rfl) (by kernel_rfl) (by kernel_rfl) rfl rfl h7 rfl ?_
     refine JP_pass (i := 8) rfl (by kernel_rfl) (by kernel_rfl) (by kernel_rfl) rfl rfl h7 rfl ?_
     refine JP_pass (i := 9) rfl (by kernel_rfl) (by kernel_rfl) (by kernel_rfl) rfl rfl h7 rfl ?_
     refine JP_pass (i := 10) rfl (by kernel_rfl) (by kernel_rfl) (by kernel_rfl) rfl rfl h7 rfl ?_
     refine JP_pass (i := 11) rfl (by kernel_rfl) (by kernel_rfl) (by kernel_rfl) rfl rfl h7 rfl ?_
     refine JP_pass (i := 12) rfl (by kernel_rfl) (by kernel_rfl) (by kernel_rfl) rfl rfl h7 rfl ?_
     refine JP_pass (i := 13) rfl (by kernel_rfl) (by kernel_rfl) (by kernel_rfl) rfl rfl h7 rfl ?_
     refine JP_pass (i := 14) rfl (by kernel_rfl) (by kernel_rfl) (by kernel_rfl) rfl rfl h7 rfl ?_
     refine JP_pass (i := 15) rfl (by kernel_rfl) (by kernel_rfl) (by kernel_rfl) rfl rfl h7 rfl ?_
     refine JP_take (i := 16) [0, 1] [] rfl (by kernel_rfl) (by kernel_rfl) (by kernel_rfl) rfl rfl wn rfl (ex_pick_true rfl h7 rfl) ?_
     refine JP_go [] [] rfl rfl rfl (fun _ _ _ => ?_)
     refine JD_done (by kernel_rfl) ?_
     refine N_then ?_
     refine J_if_true rfl rfl ?_
     refine J_sr ?_
     refine JA rfl rfl ?_
     refine JL_nt ?_
     refine J_ret ?_
     refine N_mid_ret ?_
     refine N_then_ret ?_
     exact N_ret1 rfl (rv_tmp rfl) (fun w hh => ⟨(), rfl, hh.sel [] rfl⟩)
    ·refine JP_take (i := 7) [0, 1] [] rfl (by kernel_rfl) (by kernel_rfl) (by kernel_rfl) rfl rfl (wants_some rfl rfl rfl h7) rfl (ex_move rfl) ?_
     refine JP_bnd fun y8 hy9 => ?_
     refine JP_take (i := 8) [0, 1] [] rfl (by kernel_rfl) (by kernel_rfl) (by kernel_rfl) rfl rfl (wants_some rfl rfl rfl h7) rfl (ex_nilCheck_tr 1 rfl rfl hy9) ?_
     refine JP_sq (i := 9) [] rfl (by kernel_rfl) (by kernel_rfl) (by kernel_rfl) rfl (wants_some rfl rfl rfl h7) rfl (sq_field_tr 1 (Gtree.at_nodes _) fi_77_2 rfl rfl rfl hy9) (fun q10 => ?_)
     refine JP_sq (i := 10) [] rfl (by kernel_rfl) (by kernel_rfl) (by kernel_rfl) rfl (wants_some rfl rfl rfl h7) rfl (sq_load_pt_o 0 (opens_int _) ti_2 rfl rfl) (fun _ => ?_)
     refine JP_take (i := 11) [0, 1, 2] [] rfl (by kernel_rfl) (by kernel_rfl) (by kernel_rfl) rfl rfl (wants_some rfl rfl rfl h7) rfl (ex_move rfl) ?_
     refine JP_bnd fun y12 hy13 => ?_
     refine JP_take (i := 12) [0, 1, 2] [] rfl (by kernel_rfl) (by kernel_rfl) (by kernel_rfl) rfl rfl (wants_some rfl rfl rfl h7) rfl (ex_nilCheck_tr 1 rfl rfl hy13) ?_
     refine JP_sq (i := 13) [] rfl (by kernel_rfl) (by kernel_rfl) (by kernel_rfl) rfl (wants_some rfl rfl rfl h7) rfl (sq_field_tr 1 (Gtree.at_nodes _) fi_77_2 rfl rfl rfl hy13) (fun q14 => ?_)
     refine JP_sq (i := 14) [] rfl (by kernel_rfl) (by kernel_rfl) (by kernel_rfl) rfl (wants_some rfl rfl rfl h7) rfl (sq_load_pt_o 0 (opens_int _) ti_2 rfl rfl) (fun _ => ?_)
     refine JP_take (i := 15) [0, 1, 2, 3] [] rfl (by kernel_rfl) (by kernel_rfl) (by kernel_rfl) rfl rfl (wants_some rfl rfl rfl h7) rfl (ex_neq rfl rfl) ?_
     refine JP_take (i := 16) [0, 1, 2, 3] [] rfl (by kernel_rfl) (by kernel_rfl) (by kernel_rfl) rfl rfl wn rfl (ex_pick_false rfl h7 rfl) ?_
     refine JP_go [] [] rfl rfl rfl (fun _ _ _ => ?_)
     refine JD_done (by kernel_rfl) ?_
     refine N_then ?_
     refine J_if rfl (fun h16 => ?_) (fun h16 => ?_)
     ·refine J_sr ?_
      refine JA rfl rfl ?_
      refine JL_nt ?_
      refine J_ret ?_
      refine N_mid_ret ?_
      refine N_then_ret ?_
      exact N_ret1 rfl (rv_tmp rfl) (fun w hh => ⟨(), rfl, hh.sel [] rfl⟩)
     ·refine J_skip ?_
      exact N_meet' () ⟨rfl, rfl, trivial⟩ [3, 2] rfl rfl
  ·refine N_then ?_
   refine J_seq ?_
   refine J_draw [] (by kernel_rfl) ?_
   refine JP_take (i := 0) [0, 1] [] rfl (by kernel_rfl) (by kernel_rfl) (by kernel_rfl) rfl rfl wn rfl (ex_move rfl) ?_
   refine JP_bnd fun y17 hy18 => ?_
   refine JP_take (i := 1) [0, 1] [] rfl (by kernel_rfl) (by kernel_rfl) (by kernel_rfl) rfl rfl wn rfl (ex_nilCheck_tr 0 rfl rfl hy18) ?_
   refine JP_sq (i := 2) [] rfl (by kernel_rfl) (by kernel_rfl) (by kernel_rfl) rfl wn rfl (sq_field_tr 0 (Gtree.at_head _) fi_77_0 rfl rfl rfl hy18) (fun q19 => ?_)
   refine JP_sq (i := 3) [] rfl (by kernel_rfl) (by kernel_rfl) (by kernel_rfl) rfl wn rfl (sq_load_pt_o 0 (opens_tr _) ti_41 rfl rfl) (fun v20 => ?_)
   refine JP_take (i := 4) [0, 1, 2, 3] [] rfl (by kernel_rfl) (by kernel_rfl) (by kernel_rfl) rfl rfl wn rfl (ex_move rfl) ?_
   refine JP_bnd fun y21 hy22 => ?_
   refine JP_take (i := 5) [0, 1, 2, 3] [] rfl (by kernel_rfl) (by kernel_rfl) (by kernel_rfl) rfl rfl wn rfl (ex_nilCheck_tr 3 rfl rfl hy22) ?_
   refine JP_sq (i := 6) [] rfl (by kernel_rfl) (by kernel_rfl) (by kernel_rfl) rfl wn rfl (sq_field_tr 3 (Gtree.at_head _) fi_77_0 rfl rfl rfl hy22) (fun q23 => ?_)
   refine JP_sq (i := 7) [] rfl (by kernel_rfl) (by kernel_rfl) (by kernel_rfl) rfl wn rfl (sq_load_pt_o 0 (opens_tr _) ti_41 rfl rfl) (fun v24 => ?_)
   refine JP_go [0, 1, 2, 3, 4, 5] [] rfl rfl rfl (fun w26 h1_27 hp25 => ?_)
   refine JD_bnd fun r28 hr29 => ?_
   refine JD_one (i := 8) (by kernel_rfl) ?_
   refine JO_call rfl wn rfl Try.call64 rfl (Ca_of0 fun w hh => ih_ _ w (fun _ hk => hk.elim) _ _ (hh.rd0 2 rfl) _ _ (hh.rd0 0 rfl) _ hr29) (fun _ => ?_)
   refine JD_take (i := 9) hp25 rfl (by kernel_rfl) (by kernel_rfl) (by kernel_rfl) wn rfl (ex_move rfl) ?_
   refine JD_cond (fun h30 => ?_) (fun h30 => ?_)
   ·refine JD_take (i := 10) hp25 rfl (by kernel_rfl) (by kernel_rfl) (by kernel_rfl) (wants_some rfl rfl rfl h30) rfl (ex_move rfl) ?_
    refine JD_bnd fun y31 hy32 => ?_
    refine JD_take (i := 11) hp25 rfl (by kernel_rfl) (by kernel_rfl) (by kernel_rfl) (wants_some rfl rfl rfl h30) rfl (ex_nilCheck_tr 4 rfl rfl hy32) ?_
    refine JD_sq (i := 12) (fs := fun q33 => [.pt q33 y31.tail]) [] h1_27 rfl rfl (by kernel_rfl) (by kernel_rfl) (by kernel_rfl) (wants_some rfl rfl rfl h30) rfl (sq_field_tr 4 (Gtree.at_tail _) fi_77_1 rfl rfl rfl hy32) (fun _ => rfl) (fun q33 h1_34 => ?_)
    refine JD_sq (i := 13) [] h1_34 rfl rfl (by kernel_rfl) (by kernel_rfl) (by kernel_rfl) (wants_some rfl rfl rfl h30) rfl (sq_load_pt_o 0 (opens_tr _) ti_41 rfl rfl) (fun _ => rfl) (fun v35 h1_36 => ?_)
    refine JD_take (i := 14) hp25 rfl (by kernel_rfl) (by kernel_rfl) (by kernel_rfl) (wants_some rfl rfl rfl h30) rfl (ex_move rfl) ?_
    refine JD_bnd fun y37 hy38 => ?_
    refine JD_take (i := 15) hp25 rfl (by kernel_rfl) (by kernel_rfl) (by kernel_rfl) (wants_some rfl rfl rfl h30) rfl (ex_nilCheck_tr 5 rfl rfl hy38) ?_
    refine JD_sq (i := 16) (fs := fun q39 => [.pt q39 y37.tail]) [] h1_36 rfl rfl (by kernel_rfl) (by kernel_rfl) (by kernel_rfl) (wants_some rfl rfl rfl h30) rfl (sq_field_tr 7 (Gtree.at_tail _) fi_77_1 rfl rfl rfl hy38) (fun _ => rfl) (fun q39 h1_40 => ?_)
    refine JD_sq (i := 17) [] h1_40 rfl rfl (by kernel_rfl) (by kernel_rfl) (by kernel_rfl) (wants_some rfl rfl rfl h30) rfl (sq_load_pt_o 0 (opens_tr _) ti_41 rfl rfl) (fun _ => rfl) (fun v41 h1_42 => ?_)
    refine JD_bnd fun r43 hr44 => ?_
    refine JD_one (i := 18) (by kernel_rfl) ?_
    refine JO_call rfl (wants_some rfl rfl rfl h30) rfl Try.call64 rfl (Ca_of0 fun w hh => ih_ _ w (fun _ hk => hk.elim) _ _ (hh.rd0 2 rfl) _ _ (hh.rd0 0 rfl) _ hr44) (fun _ => ?_)
    refine JD_take (i := 19) hp25 rfl (by kernel_rfl) (by kernel_rfl) (by kernel_rfl) wn rfl (ex_pick_true rfl h30 rfl) ?_
    refine JD_take (i := 20) hp25 rfl (by kernel_rfl) (by kernel_rfl) (by kernel_rfl) wn rfl (ex_assign rfl) ?_
    refine JD_done (by kernel_rfl) ?_
    refine N_then ?_
    refine J_ret ?_
    exact N_ret1 rfl (rv_tmp rfl) (fun w hh => ⟨(), rfl, hh.sel [] rfl⟩)
   ·refine JD_pass (i := 10) rfl (by kernel_rfl) (by kernel_rfl) (by kernel_rfl) rfl rfl h30 rfl ?_
    refine JD_pass (i := 11) rfl (by kernel_rfl) (by kernel_rfl) (by kernel_rfl) rfl rfl h30 rfl ?_
    refine JD_pass (i := 12) rfl (by kernel_rfl) (by kernel_rfl) (by kernel_rfl) rfl rfl h30 rfl ?_
    refine JD_pass (i := 13) rfl (by kernel_rfl) (by kernel_rfl) (by kernel_rfl) rfl rfl h30 rfl ?_
    refine JD_pass (i := 14) rfl (by kernel_rfl) (by kernel_rfl) (by kernel_rfl) rfl rfl h30 rfl ?_
    refine JD_pass (i := 15) rfl (by kernel_rfl) (by kernel_rfl) (by kernel_rfl) rfl rfl h30 rfl ?_
    refine JD_pass (i := 16) rfl (by kernel_rfl) (by kernel_rfl) (by kernel_rfl) rfl rfl h30 rfl ?_
    refine JD_pass (i := 17) rfl (by kernel_rfl) (by kernel_rfl) (by kernel_rfl) rfl rfl h30 rfl ?_
    refine JD_pass (i := 18) rfl (by kernel_rfl) (by kernel_rfl) (by kernel_rfl) rfl rfl h30 rfl ?_
    refine JD_take (i := 19) hp25 rfl (by kernel_rfl) (by kernel_rfl) (by kernel_rfl) wn rfl (ex_pick_false rfl h30 rfl) ?_
    refine JD_take (i := 20) hp25 rfl (by kernel_rfl) (by kernel_rfl) (by kernel_rfl) wn rfl (ex_assign rfl) ?_
    refine JD_done (by kernel_rfl) ?_
    refine N_then ?_
    refine J_ret ?_
    exact N_ret1 rfl (rv_tmp rfl) (fun w hh => ⟨(), rfl, hh.sel [] rfl⟩)
theorem c_impl_tree_equal (A : Nat → Prop) (w : World) (hA : ∀ k, A k → k < w.heap.size) (v0_ : Value) (p0 : Tre) (hp0 : Rd A w v0_ p0) (v1_ : Value) (p1 : Tre) (hp1 : Rd A w v1_ p1) (r : Bool) (hr : F_impl_tree_equal p0 p1 = some r) :
  Con Try.prog 64 [v0_, v1_] A w (fun x_ : Unit => .bool r) (fun x_ => []) := by
 obtain ⟨k_, hk_⟩ := fixR_some hr
 exact c_impl_tree_equal_ind k_ A w hA v0_ p0 hp0 v1_ p1 hp1 r hk_
set_option maxHeartbeats 40000000 in
theorem c_slices_Concat_Simpl_Expr_impl_Expr (A : Nat → Prop) (w : World) (hA : ∀ k, A k → k < w.heap.size) (v0_ : Value) (p0 : (List (List GExpr))) (hp0 : Rd A w v0_ p0) (r : (List GExpr)) (hr : F_slices_Concat_Simpl_Expr_impl_Expr p0 = some r) :
  Con Try.prog 82 [v0_] A w (fun x_ : Value => x_) (fun x_ => [.ow 67 x_ r]) := by
 refine Con_of (v := fun (r : (List GExpr)) (x_ : Value) => x_) (fs := fun r x_ => [.ow 67 x_ r]) Try.func82 rfl Try.ntmps82 rfl ((SH.start hA).start_rd rfl hp0) rfl ?_ hr
 unfold F_slices_Concat_Simpl_Expr_impl_Expr
 refine J_sr ?_
 refine JA rfl rfl ?_
 refine JL_nt ?_
 refine J_sr ?_
 refine JA rfl rfl ?_
 refine JL_nt ?_
 refine J_seq ?_
 refine J_sr ?_
 refine JM rfl rfl ?_
 refine JL_q wn rfl (ex_len_rd 0 Try.underlying114 rfl rfl) ?_
 refine JM rfl rfl ?_
 refine JL_nt ?_
 refine J_loop' (S := Int × Int) (G := Unit) (F_slices_Concat_Simpl_Expr_impl_Expr_L1 p0) (fun s1 _ => [(0, v0_), (3, .int .i64 s1.1), (9, v0_), (10, .int .i64 (p0.length : Int)), (11, .int .i64 s1.2)]) (fun s1 _ => [.rd v0_ p0]) (0, 0) () ⟨rfl, rfl, rfl, rfl, rfl, trivial⟩ [0] rfl rfl (fun s1 g2 => ?_) (fun s1 g2 => ?_)
 ·unfold F_slices_Concat_Simpl_Expr_impl_Expr_L1
  refine J_sr ?_
  refine JL_q wn rfl (ex_lss rfl rfl) ?_
  refine JL_nt ?_
  refine J_seq ?_
  refine J_if rfl (fun h3 => ?_) (fun h3 => ?_)
  ·refine J_skip ?_
   refine N_then ?_
   refine J_seq ?_
   refine J_block ?_
   refine J_sr ?_
   refine JL_bnd fun y4 hy5 => ?_
   refine JL_st wn rfl (st_index 0 Try.underlying114 ti_52 rfl rfl rfl hy5) (fun q6 => ?_)
   refine JL_st wn rfl (st_load_pt_o 0 (opens_sl _) ti_52 rfl rfl) (fun v7 => ?_)
   refine JA rfl rfl ?_
   refine JL_nt ?_
   refine J_sr ?_
   refine JM rfl rfl ?_
   refine JM rfl rfl ?_
   refine JL_q wn rfl (ex_len_rd 0 Try.underlying52 rfl rfl) ?_
   refine JL_q wn rfl (ex_add rfl rfl) ?_
   refine JA rfl rfl ?_
   refine JL_nt ?_
   refine J_sr ?_
   refine JM rfl rfl ?_
   refine JL_q wn rfl (ex_lss rfl rfl) ?_
   refine JL_nt ?_
   refine J_if rfl (fun h8 => ?_) (fun h8 => ?_)
   ·refine J_region ?_
    exact JL_none
   ·refine J_skip ?_
    refine N_block ?_
    refine N_then ?_
    refine J_region ?_
    refine JL_q wn rfl (ex_add rfl rfl) ?_
    refine JM rfl rfl ?_
    refine JL_nil ?_
    exact N_next' () ⟨rfl, rfl, rfl, rfl, rfl, trivial⟩ [2] rfl rfl
  ·refine J_exit ?_
   refine N_then_exit ?_
   exact N_break' () ⟨rfl, rfl, rfl, rfl, rfl, trivial⟩ [0] rfl rfl
 ·refine N_then ?_
  refine J_sr ?_
  refine JM rfl rfl ?_
  refine JL_inline wn rfl Try.call89 rfl Try.func89 rfl Try.ntmps89 rfl rfl (fun K_ hK9 => ?_)
  refine J_sr ?_
  refine JA rfl rfl ?_
  refine JL_nt ?_
  refine J_seq ?_
  refine J_cut' (S' := Unit) (G' := Unit) (fun _ _ => [(0, .slice none 0 0), (1, .int .i64 s1.1)]) (fun _ _ => [.rd v0_ p0]) ?_ (fun s10 g11 => ?_)
  ·refine J_sr ?_
   refine JM rfl rfl ?_
   refine JL_q wn rfl (ex_lss rfl rfl) ?_
   refine JL_nt ?_
   refine J_if rfl (fun h12 => ?_) (fun h12 => ?_)
   ·refine J_region ?_
    exact JL_none
   ·refine J_skip ?_
    exact N_meet' () ⟨rfl, rfl, trivial⟩ [0] rfl rfl
  ·refine N_then ?_
   refine J_seq ?_
   refine J_sr ?_
   refine JM rfl rfl ?_
   refine JM rfl rfl ?_
   refine JL_q wn rfl (ex_cap_lit Try.underlying52 rfl) ?_
   refine JM rfl rfl ?_
   refine JL_q wn rfl (ex_len_nil Try.underlying52 rfl) ?_
   refine JL_q wn rfl (ex_sub rfl rfl) ?_
   refine JL_q wn rfl (ex_sub rfl rfl) ?_
   refine JA rfl rfl ?_
   refine JL_nt ?_
   refine J_sr ?_
   refine JM rfl rfl ?_
   refine JL_q wn rfl (ex_gtr rfl rfl) ?_
   refine JL_nt ?_
   refine J_if rfl (fun h13 => ?_) (fun h13 => ?_)
   ·refine J_region ?_
    refine JM rfl rfl ?_
    refine JM rfl rfl ?_
    refine JL_q wn rfl (ex_cap_lit Try.underlying52 rfl) ?_
    refine JL_q wn rfl (ex_slice_nil Try.underlying52 ti_67 rfl rfl) ?_
    refine JM rfl rfl ?_
    refine JL_bnd fun z14 hz15 => ?_
    refine JL_st wn rfl (st_zeros (α := GExpr) Try.underlying52 Try.underlying3 ti_67 zi_67 bi_67 rfl (fun _ _ => GExpr.zero) rfl rfl (of_decide_eq_true h13) hz15) (fun v16 => ?_)
    refine JM rfl rfl ?_
    refine JL_q wn rfl (ex_len_nil Try.underlying52 rfl) ?_
    refine JL_bnd fun z17 hz18 => ?_
    refine JL_st wn rfl (st_slice_own 0 Try.underlying52 ti_67 rfl rfl rfl hz18) (fun v19 => ?_)
    refine JA rfl rfl ?_
    refine JL_nt ?_
    refine J_sr ?_
    refine JM rfl rfl ?_
    refine JA rfl rfl ?_
    refine JL_nt ?_
    refine J_ret ?_
    refine N_inl1 hK9 rfl (rv_tmp rfl) ?_
    refine JA rfl rfl ?_
    refine JL_nt ?_
    refine J_seq ?_
    refine J_sr ?_
    refine JM rfl rfl ?_
    refine JL_q wn rfl (ex_len_rd 1 Try.underlying114 rfl rfl) ?_
    refine JM rfl rfl ?_
    refine JL_nt ?_
    refine J_loop' (S := (List GExpr) × Int) (G := Value) (F_slices_Concat_Simpl_Expr_impl_Expr_L2 p0) (fun s20 g21 => [(6, g21), (25, v0_), (26, .int .i64 (p0.length : Int)), (27, .int .i64 s20.2)]) (fun s20 g21 => [.ow 67 g21 s20.1, .rd v0_ p0]) (z17, 0) v19 ⟨rfl, rfl, rfl, rfl, trivial⟩ [0, 1] rfl rfl (fun s20 g21 => ?_) (fun s20 g21 => ?_)
    ·unfold F_slices_Concat_Simpl_Expr_impl_Expr_L2
     refine J_sr ?_
     refine JL_q wn rfl (ex_lss rfl rfl) ?_
     refine JL_nt ?_
     refine J_seq ?_
     refine J_if rfl (fun h22 => ?_) (fun h22 => ?_)
     ·refine J_skip ?_
      refine N_then ?_
      refine J_seq ?_
      refine J_block ?_
      refine J_sr ?_
      refine JL_bnd fun y23 hy24 => ?_
      refine JL_st wn rfl (st_index 1 Try.underlying114 ti_52 rfl rfl rfl hy24) (fun q25 => ?_)
      refine JL_st wn rfl (st_load_pt_o 0 (opens_sl _) ti_52 rfl rfl) (fun v26 => ?_)
      refine JA rfl rfl ?_
      refine JL_nt ?_
      refine J_region ?_
      refine JM rfl rfl ?_
      refine JM rfl rfl ?_
      refine JL_bnd fun z27 hz28 => ?_
      refine JL_st wn rfl (st_append 2 Try.underlying52 ti_67 zi_67 rfl bi_67 rfl rfl rfl rfl (fun w hh => hh.src_rd 0 rfl) hz28) (fun v29 => ?_)
      refine JA rfl rfl ?_
      refine JL_nil ?_
      refine N_block ?_
      refine N_then ?_
      refine J_region ?_
      refine JL_q wn rfl (ex_add rfl rfl) ?_
      refine JM rfl rfl ?_
      refine JL_nil ?_
      exact N_next' v29 ⟨rfl, rfl, rfl, rfl, trivial⟩ [2, 3] rfl rfl
     ·refine J_exit ?_
      refine N_then_exit ?_
      exact N_break' g21 ⟨rfl, rfl, rfl, rfl, trivial⟩ [0, 1] rfl rfl
    ·refine N_then ?_
     refine J_sr ?_
     refine JM rfl rfl ?_
     refine JA rfl rfl ?_
     refine JL_nt ?_
     refine J_ret ?_
     exact N_ret1 rfl (rv_tmp rfl) (fun w hh => ⟨g21, rfl, hh.sel [0] rfl⟩)
   ·refine J_skip ?_
    refine N_then ?_
    refine J_sr ?_
    refine JM rfl rfl ?_
    refine JA rfl rfl ?_
    refine JL_nt ?_
    refine J_ret ?_
    refine N_inl1 hK9 rfl (rv_tmp rfl) ?_
    refine JA rfl rfl ?_
    refine JL_nt ?_
    refine J_seq ?_
    refine J_sr ?_
    refine JM rfl rfl ?_
    refine JL_q wn rfl (ex_len_rd 0 Try.underlying114 rfl rfl) ?_
    refine JM rfl rfl ?_
    refine JL_nt ?_
    refine J_ctx (fun w hh => SH.ow_nil (α := GExpr) 67 hh) ?_
    refine J_loop' (S := (List GExpr) × Int) (G := Value) (F_slices_Concat_Simpl_Expr_impl_Expr_L3 p0) (fun s30 g31 => [(6, g31), (25, v0_), (26, .int .i64 (p0.length : Int)), (27, .int .i64 s30.2)]) (fun s30 g31 => [.ow 67 g31 s30.1, .rd v0_ p0]) (([] : (List GExpr)), 0) (.slice none 0 0 : Value) ⟨rfl, rfl, rfl, rfl, trivial⟩ [0, 1] rfl rfl (fun s30 g31 => ?_) (fun s30 g31 => ?_)
    ·unfold F_slices_Concat_Simpl_Expr_impl_Expr_L3
     refine J_sr ?_
     refine JL_q wn rfl (ex_lss rfl rfl) ?_
     refine JL_nt ?_
     refine J_seq ?_
     refine J_if rfl (fun h32 => ?_) (fun h32 => ?_)
     ·refine J_skip ?_
      refine N_then ?_
      refine J_seq ?_
      refine J_block ?_
      refine J_sr ?_
      refine JL_bnd fun y33 hy34 => ?_
      refine JL_st wn rfl (st_index 1 Try.underlying114 ti_52 rfl rfl rfl hy34) (fun q35 => ?_)
      refine JL_st wn rfl (st_load_pt_o 0 (opens_sl _) ti_52 rfl rfl) (fun v36 => ?_)
      refine JA rfl rfl ?_
      refine JL_nt ?_
      refine J_region ?_
      refine JM rfl rfl ?_
      refine JM rfl rfl ?_
      refine JL_bnd fun z37 hz38 => ?_
      refine JL_st wn rfl (st_append 2 Try.underlying52 ti_67 zi_67 rfl bi_67 rfl rfl rfl rfl (fun w hh => hh.src_rd 0 rfl) hz38) (fun v39 => ?_)
      refine JA rfl rfl ?_
      refine JL_nil ?_
      refine N_block ?_
      refine N_then ?_
      refine J_region ?_
      refine JL_q wn rfl (ex_add rfl rfl) ?_
      refine JM rfl rfl ?_
      refine JL_nil ?_
      exact N_next' v39 ⟨rfl, rfl, rfl, rfl, trivial⟩ [2, 3] rfl rfl
     ·refine J_exit ?_
      refine N_then_exit ?_
      exact N_break' g31 ⟨rfl, rfl, rfl, rfl, trivial⟩ [0, 1] rfl rfl
    ·refine N_then ?_
     refine J_sr ?_
     refine JM rfl rfl ?_
     refine JA rfl rfl ?_
     refine JL_nt ?_
     refine J_ret ?_
     exact N_ret1 rfl (rv_tmp rfl) (fun w hh => ⟨g31, rfl, hh.sel [0] rfl⟩)
set_option maxHeartbeats 40000000 in
theorem c_impl_decodedExpr_ind : ∀ (k_ : Nat) (A : Nat → Prop) (w : World) (hA : ∀ k, A k → k < w.heap.size) (v0_ : Value) (p0 : Tre) (hp0 : Rd A w v0_ p0) (r : (List GExpr) × Bool) (hr : fixN (fun (rec_ : Tre → Option ((List GExpr) × Bool)) (a_ : Tre) => F_impl_decodedExpr_step (fun p0 => rec_ p0) a_) k_ p0 = some r),
  Con Try.prog 65 [v0_] A w (fun x_ : Value => .tuple #[x_, .bool r.2]) (fun x_ => [.ow 67 x_ r.1]) := by
 intro k_
 induction k_ with
 | zero => intro A w hA v0_ p0 hp0 r hr; cases hr
 | succ k_ ih_ =>
 intro A w hA v0_ p0 hp0 r hr
 replace hr : F_impl_decodedExpr_step (fun p0 => fixN (fun (rec_ : Tre → Option ((List GExpr) × Bool)) (a_ : Tre) => F_impl_decodedExpr_step (fun p0 => rec_ p0) a_) k_ p0) p0 = some r := hr
 refine Con_of (v := fun (r : (List GExpr) × Bool) (x_ : Value) => .tuple #[x_, .bool r.2]) (fs := fun r x_ => [.ow 67 x_ r.1]) Try.func65 rfl Try.ntmps65 rfl ((SH.start hA).start_rd rfl hp0) rfl ?_ hr
 unfold F_impl_decodedExpr_step
 refine J_sr ?_
 refine JA rfl rfl ?_
 refine JA rfl rfl ?_
 refine JL_nt ?_
 refine J_sr ?_
 refine JM rfl rfl ?_
 refine JL_bnd fun r1 hr2 => ?_
 refine JL_call wn rfl Try.call23 rfl (Ca_of (fun _ => rfl) fun w hh => c_impl_tree_headOf _ w hh.av' _ _ (hh.rd 0 rfl) _ hr2) (fun x3 => ?_)
 refine JM rfl rfl ?_
 refine JL_bnd fun r4 hr5 => ?_
 refine JL_call wn rfl Try.call63 rfl (Ca_of (fun _ => rfl) fun w hh => c_impl_tree_tailOf _ w hh.av' _ _ (hh.rd 1 rfl) _ hr5) (fun x6 => ?_)
 refine JA rfl rfl ?_
 refine JA rfl rfl ?_
 refine JL_nt ?_
 refine J_seq ?_
 refine J_cut' (S' := Unit) (G' := Unit) (fun _ _ => [(5, x6)]) (fun _ _ => [.rd x6 r4]) ?_ (fun s7 g8 => ?_)
 ·refine J_block ?_
  refine J_sr ?_
  refine JM rfl rfl ?_
  refine JL_q wn rfl (ex_eq_tr 2 Try.underlying41 rfl rfl rfl) ?_
  refine JA rfl rfl ?_
  refine JL_nt ?_
  refine J_if rfl (fun h9 => ?_) (fun h9 => ?_)
  ·refine J_sr ?_
   refine JA rfl rfl ?_
   refine JA rfl rfl ?_
   refine JL_nt ?_
   refine J_ret ?_
   refine N_block_ret ?_
   refine N_mid_ret ?_
   refine N_then_ret ?_
   refine N_ctx (fun w hh => SH.ow_nil (α := GExpr) 67 hh) ?_
   exact N_ret2 rfl (rv_tmp rfl) (rv_tmp rfl) (fun w hh => ⟨(.slice none 0 0 : Value), rfl, hh.sel [0] rfl⟩)
  ·refine J_sr ?_
   refine JM rfl rfl ?_
   refine JL_bnd fun r10 hr11 => ?_
   refine JL_call wn rfl Try.call60 rfl (Ca_of (fun _ => rfl) fun w hh => c_impl_tagTree _ w hh.av' _ _ hr11) (fun x12 => ?_)
   refine JL_bnd fun r13 hr14 => ?_
   refine JL_call wn rfl Try.call64 rfl (Ca_of0 fun w hh => c_impl_tree_equal _ w (fun _ hk => hk.elim) _ _ (hh.rd0 2 rfl) _ _ (hh.rd0 0 rfl) _ hr14) (fun _ => ?_)
   refine JA rfl rfl ?_
   refine JL_nt ?_
   refine J_if rfl (fun h15 => ?_) (fun h15 => ?_)
   ·refine J_sr ?_
    refine JL_q wn rfl (ex_build si_67 rfl (.cons fi_67_0 rfl rfl .nil) (fun w hh => ⟨cv_int, trivial⟩)) ?_
    refine JL_st wn rfl (st_buildSlice (vs := [.agg #[.int .i64 0, .int .i64 0]]) ([(⟨0, 0⟩ : GExpr)] : List GExpr) Try.underlying52 ti_67 zi_67 rfl rfl rfl (fun w hh => ⟨(GExpr.rdmk (Rd.mk_int _ _ _) (Rd.mk_int _ _ _)), trivial⟩)) (fun b16 => ?_)
    refine JM rfl rfl ?_
    refine JL_q wn rfl (ex_eq_tr 2 Try.underlying41 rfl rfl rfl) ?_
    refine JA rfl rfl ?_
    refine JA rfl rfl ?_
    refine JL_nt ?_
    refine J_ret ?_
    refine N_block_ret ?_
    refine N_mid_ret ?_
    refine N_then_ret ?_
    exact N_ret2 rfl (rv_tmp rfl) (rv_tmp rfl) (fun w hh => ⟨(.slice (some ⟨b16, 0, none⟩) 1 1), rfl, hh.sel [0] rfl⟩)
   ·refine J_sr ?_
    refine JM rfl rfl ?_
    refine JL_bnd fun r17 hr18 => ?_
    refine JL_call wn rfl Try.call60 rfl (Ca_of (fun _ => rfl) fun w hh => c_impl_tagTree _ w hh.av' _ _ hr18) (fun x19 => ?_)
    refine JL_bnd fun r20 hr21 => ?_
    refine JL_call wn rfl Try.call64 rfl (Ca_of0 fun w hh => c_impl_tree_equal _ w (fun _ hk => hk.elim) _ _ (hh.rd0 3 rfl) _ _ (hh.rd0 0 rfl) _ hr21) (fun _ => ?_)
    refine JA rfl rfl ?_
    refine JL_nt ?_
    refine J_if rfl (fun h22 => ?_) (fun h22 => ?_)
    ·refine J_sr ?_
     refine JL_q wn rfl (ex_build si_67 rfl (.cons fi_67_0 rfl rfl .nil) (fun w hh => ⟨cv_int, trivial⟩)) ?_
     refine JL_st wn rfl (st_buildSlice (vs := [.agg #[.int .i64 1, .int .i64 0]]) ([(⟨1, 0⟩ : GExpr)] : List GExpr) Try.underlying52 ti_67 zi_67 rfl rfl rfl (fun w hh => ⟨(GExpr.rdmk (Rd.mk_int _ _ _) (Rd.mk_int _ _ _)), trivial⟩)) (fun b23 => ?_)
     refine JM rfl rfl ?_
     refine JL_q wn rfl (ex_eq_tr 3 Try.underlying41 rfl rfl rfl) ?_
     refine JA rfl rfl ?_
     refine JA rfl rfl ?_
     refine JL_nt ?_
     refine J_ret ?_
     refine N_block_ret ?_
     refine N_mid_ret ?_
     refine N_then_ret ?_
     exact N_ret2 rfl (rv_tmp rfl) (rv_tmp rfl) (fun w hh => ⟨(.slice (some ⟨b23, 0, none⟩) 1 1), rfl, hh.sel [0] rfl⟩)
    ·refine J_sr ?_
     refine JM rfl rfl ?_
     refine JL_bnd fun r24 hr25 => ?_
     refine JL_call wn rfl Try.call60 rfl (Ca_of (fun _ => rfl) fun w hh => c_impl_tagTree _ w hh.av' _ _ hr25) (fun x26 => ?_)
     refine JL_bnd fun r27 hr28 => ?_
     refine JL_call wn rfl Try.call64 rfl (Ca_of0 fun w hh => c_impl_tree_equal _ w (fun _ hk => hk.elim) _ _ (hh.rd0 4 rfl) _ _ (hh.rd0 0 rfl) _ hr28) (fun _ => ?_)
     refine JL_q wn rfl (ex_not rfl) ?_
     refine JM rfl rfl ?_
     refine JL_cond (fun h29 => ?_) (fun h29 => ?_)
     ·refine JL_passed rfl rfl rfl h29 ?_
      refine JL_passed rfl rfl rfl h29 ?_
      refine JL_q wn rfl (ex_pick_true rfl h29 rfl) ?_
      refine JM rfl rfl ?_
      refine JL_passed rfl rfl rfl rfl ?_
      refine JL_passed rfl rfl rfl rfl ?_
      refine JL_passed rfl rfl rfl rfl ?_
      refine JL_passed rfl rfl rfl rfl ?_
      refine JL_passed rfl rfl rfl rfl ?_
      refine JL_q wn rfl (ex_pick_true rfl rfl rfl) ?_
      refine JM rfl rfl ?_
      refine JL_passed rfl rfl rfl rfl ?_
      refine JL_passed rfl rfl rfl rfl ?_
      refine JL_passed rfl rfl rfl rfl ?_
      refine JL_passed rfl rfl rfl rfl ?_
      refine JL_passed rfl rfl rfl rfl ?_
      refine JL_passed rfl rfl rfl rfl ?_
      refine JL_passed rfl rfl rfl rfl ?_
      refine JL_passed rfl rfl rfl rfl ?_
      refine JL_q wn rfl (ex_pick_true rfl rfl rfl) ?_
      refine JM rfl rfl ?_
      refine JL_passed rfl rfl rfl rfl ?_
      refine JL_passed rfl rfl rfl rfl ?_
      refine JL_passed rfl rfl rfl rfl ?_
      refine JL_passed rfl rfl rfl rfl ?_
      refine JL_passed rfl rfl rfl rfl ?_
      refine JL_q wn rfl (ex_pick_true rfl rfl rfl) ?_
      refine JA rfl rfl ?_
      refine JL_nt ?_
      refine J_if_true rfl rfl ?_
      refine J_sr ?_
      refine JA rfl rfl ?_
      refine JA rfl rfl ?_
      refine JL_nt ?_
      refine J_ret ?_
      refine N_block_ret ?_
      refine N_mid_ret ?_
      refine N_then_ret ?_
      refine N_ctx (fun w hh => SH.ow_nil (α := GExpr) 67 hh) ?_
      exact N_ret2 rfl (rv_tmp rfl) (rv_tmp rfl) (fun w hh => ⟨(.slice none 0 0 : Value), rfl, hh.sel [0] rfl⟩)
     ·refine JL_q (wants_some rfl rfl rfl h29) rfl (ex_move rfl) ?_
      refine JL_q (wants_some rfl rfl rfl h29) rfl (ex_eq_tr 3 Try.underlying41 rfl rfl rfl) ?_
      refine JL_q wn rfl (ex_pick_false rfl h29 rfl) ?_
      refine JM rfl rfl ?_
      refine JL_cond (fun h30 => ?_) (fun h30 => ?_)
      ·refine JL_passed rfl rfl rfl h30 ?_
       refine JL_passed rfl rfl rfl h30 ?_
       refine JL_passed rfl rfl rfl h30 ?_
       refine JL_passed rfl rfl rfl h30 ?_
       refine JL_passed rfl rfl rfl h30 ?_
       refine JL_q wn rfl (ex_pick_true rfl h30 rfl) ?_
       refine JM rfl rfl ?_
       refine JL_passed rfl rfl rfl rfl ?_
       refine JL_passed rfl rfl rfl rfl ?_
       refine JL_passed rfl rfl rfl rfl ?_
       refine JL_passed rfl rfl rfl rfl ?_
       refine JL_passed rfl rfl rfl rfl ?_
       refine JL_passed rfl rfl rfl rfl ?_
       refine JL_passed rfl rfl rfl rfl ?_
       refine JL_passed rfl rfl rfl rfl ?_
       refine JL_q wn rfl (ex_pick_true rfl rfl rfl) ?_
       refine JM rfl rfl ?_
       refine JL_passed rfl rfl rfl rfl ?_
       refine JL_passed rfl rfl rfl rfl ?_
       refine JL_passed rfl rfl rfl rfl ?_
       refine JL_passed rfl rfl rfl rfl ?_
       refine JL_passed rfl rfl rfl rfl ?_
       refine JL_q wn rfl (ex_pick_true rfl rfl rfl) ?_
       refine JA rfl rfl ?_
       refine JL_nt ?_
       refine J_if_true rfl rfl ?_
       refine J_sr ?_
       refine JA rfl rfl ?_
       refine JA rfl rfl ?_
       refine JL_nt ?_
       refine J_ret ?_
       refine N_block_ret ?_
       refine N_mid_ret ?_
       refine N_then_ret ?_
       refine N_ctx (fun w hh => SH.ow_nil (α := GExpr) 67 hh) ?_
       exact N_ret2 rfl (rv_tmp rfl) (rv_tmp rfl) (fun w hh => ⟨(.slice none 0 0 : Value), rfl, hh.sel [0] rfl⟩)
      ·refine JL_q (wants_some rfl rfl rfl h30) rfl (ex_move rfl) ?_
       refine JL_bnd fun y31 hy32 => ?_
       refine JL_q (wants_some rfl rfl rfl h30) rfl (ex_nilCheck_tr 3 rfl rfl hy32) ?_
       refine JL_st (wants_some rfl rfl rfl h30) rfl (st_field_tr 3 (Gtree.at_head _) fi_77_0 rfl rfl rfl hy32) (fun q33 => ?_)
       refine JL_st (wants_some rfl rfl rfl h30) rfl (st_load_pt_o 0 (opens_tr _) ti_41 rfl rfl) (fun v34 => ?_)
       refine JL_q (wants_some rfl rfl rfl h30) rfl (ex_eq_tr 0 Try.underlying41 rfl rfl rfl) ?_
       refine JL_q wn rfl (ex_pick_false rfl h30 rfl) ?_
       refine JM rfl rfl ?_
       refine JL_cond (fun h35 => ?_) (fun h35 => ?_)
       ·refine JL_passed rfl rfl rfl h35 ?_
        refine JL_passed rfl rfl rfl h35 ?_
        refine JL_passed rfl rfl rfl h35 ?_
        refine JL_passed rfl rfl rfl h35 ?_
        refine JL_passed rfl rfl rfl h35 ?_
        refine JL_passed rfl rfl rfl h35 ?_
        refine JL_passed rfl rfl rfl h35 ?_
        refine JL_passed rfl rfl rfl h35 ?_
        refine JL_q wn rfl (ex_pick_true rfl h35 rfl) ?_
        refine JM rfl rfl ?_
        refine JL_passed rfl rfl rfl rfl ?_
        refine JL_passed rfl rfl rfl rfl ?_
        refine JL_passed rfl rfl rfl rfl ?_
        refine JL_passed rfl rfl rfl rfl ?_
        refine JL_passed rfl rfl rfl rfl ?_
        refine JL_q wn rfl (ex_pick_true rfl rfl rfl) ?_
        refine JA rfl rfl ?_
        refine JL_nt ?_
        refine J_if_true rfl rfl ?_
        refine J_sr ?_
        refine JA rfl rfl ?_
        refine JA rfl rfl ?_
        refine JL_nt ?_
        refine J_ret ?_
        refine N_block_ret ?_
        refine N_mid_ret ?_
        refine N_then_ret ?_
        refine N_ctx (fun w hh => SH.ow_nil (α := GExpr) 67 hh) ?_
        exact N_ret2 rfl (rv_tmp rfl) (rv_tmp rfl) (fun w hh => ⟨(.slice none 0 0 : Value), rfl, hh.sel [0] rfl⟩)
       ·refine JL_q (wants_some rfl rfl rfl h35) rfl (ex_move rfl) ?_
        refine JL_bnd fun y36 hy37 => ?_
        refine JL_q (wants_some rfl rfl rfl h35) rfl (ex_nilCheck_tr 5 rfl rfl hy37) ?_
        refine JL_st (wants_some rfl rfl rfl h35) rfl (st_field_tr 5 (Gtree.at_head _) fi_77_0 rfl rfl rfl hy37) (fun q38 => ?_)
        refine JL_st (wants_some rfl rfl rfl h35) rfl (st_load_pt_o 0 (opens_tr _) ti_41 rfl rfl) (fun v39 => ?_)
        refine JL_bnd fun y40 hy41 => ?_
        refine JL_q (wants_some rfl rfl rfl h35) rfl (ex_nilCheck_tr 0 rfl rfl hy41) ?_
        refine JL_st (wants_some rfl rfl rfl h35) rfl (st_field_tr 0 (Gtree.at_tail _) fi_77_1 rfl rfl rfl hy41) (fun q42 => ?_)
        refine JL_st (wants_some rfl rfl rfl h35) rfl (st_load_pt_o 0 (opens_tr _) ti_41 rfl rfl) (fun v43 => ?_)
        refine JL_q (wants_some rfl rfl rfl h35) rfl (ex_ne_tr 0 Try.underlying41 rfl rfl rfl) ?_
        refine JL_q wn rfl (ex_pick_false rfl h35 rfl) ?_
        refine JM rfl rfl ?_
        refine JL_cond (fun h44 => ?_) (fun h44 => ?_)
        ·refine JL_passed rfl rfl rfl h44 ?_
         refine JL_passed rfl rfl rfl h44 ?_
         refine JL_passed rfl rfl rfl h44 ?_
         refine JL_passed rfl rfl rfl h44 ?_
         refine JL_passed rfl rfl rfl h44 ?_
         refine JL_q wn rfl (ex_pick_true rfl h44 rfl) ?_
         refine JA rfl rfl ?_
         refine JL_nt ?_
         refine J_if_true rfl rfl ?_
         refine J_sr ?_
         refine JA rfl rfl ?_
         refine JA rfl rfl ?_
         refine JL_nt ?_
         refine J_ret ?_
         refine N_block_ret ?_
         refine N_mid_ret ?_
         refine N_then_ret ?_
         refine N_ctx (fun w hh => SH.ow_nil (α := GExpr) 67 hh) ?_
         exact N_ret2 rfl (rv_tmp rfl) (rv_tmp rfl) (fun w hh => ⟨(.slice none 0 0 : Value), rfl, hh.sel [0] rfl⟩)
        ·refine JL_q (wants_some rfl rfl rfl h44) rfl (ex_move rfl) ?_
         refine JL_bnd fun y45 hy46 => ?_
         refine JL_q (wants_some rfl rfl rfl h44) rfl (ex_nilCheck_tr 9 rfl rfl hy46) ?_
         refine JL_st (wants_some rfl rfl rfl h44) rfl (st_field_tr 9 (Gtree.at_tail _) fi_77_1 rfl rfl rfl hy46) (fun q47 => ?_)
         refine JL_st (wants_some rfl rfl rfl h44) rfl (st_load_pt_o 0 (opens_tr _) ti_41 rfl rfl) (fun v48 => ?_)
         refine JL_q (wants_some rfl rfl rfl h44) rfl (ex_eq_tr 0 Try.underlying41 rfl rfl rfl) ?_
         refine JL_q wn rfl (ex_pick_false rfl h44 rfl) ?_
         refine JA rfl rfl ?_
         refine JL_nt ?_
         refine J_if rfl (fun h49 => ?_) (fun h49 => ?_)
         ·refine J_sr ?_
          refine JA rfl rfl ?_
          refine JA rfl rfl ?_
          refine JL_nt ?_
          refine J_ret ?_
          refine N_block_ret ?_
          refine N_mid_ret ?_
          refine N_then_ret ?_
          refine N_ctx (fun w hh => SH.ow_nil (α := GExpr) 67 hh) ?_
          exact N_ret2 rfl (rv_tmp rfl) (rv_tmp rfl) (fun w hh => ⟨(.slice none 0 0 : Value), rfl, hh.sel [0] rfl⟩)
         ·refine J_skip ?_
          refine N_block ?_
          exact N_meet' () ⟨rfl, trivial⟩ [11] rfl rfl
 ·refine N_then ?_
  refine J_sr ?_
  refine JM rfl rfl ?_
  refine JL_bnd fun y50 hy51 => ?_
  refine JL_q wn rfl (ex_nilCheck_tr 0 rfl rfl hy51) ?_
  refine JL_st wn rfl (st_field_tr 0 (Gtree.at_tail _) fi_77_1 rfl rfl rfl hy51) (fun q52 => ?_)
  refine JL_st wn rfl (st_load_pt_o 0 (opens_tr _) ti_41 rfl rfl) (fun v53 => ?_)
  refine JL_bnd fun y54 hy55 => ?_
  refine JL_q wn rfl (ex_nilCheck_tr 0 rfl rfl hy55) ?_
  refine JL_st wn rfl (st_field_tr 0 (Gtree.at_head _) fi_77_0 rfl rfl rfl hy55) (fun q56 => ?_)
  refine JL_st wn rfl (st_load_pt_o 0 (opens_tr _) ti_41 rfl rfl) (fun v57 => ?_)
  refine JL_bnd fun r58 hr59 => ?_
  refine JL_call wn rfl Try.call65 rfl (Ca_self (fun _ => rfl) fun w hh => ih_ _ w (fun _ hk => hk.elim) _ _ (hh.rd0 0 rfl) _ hr59) (fun x60 => ?_)
  refine JM rfl rfl ?_
  refine JL_q wn rfl (ex_extract rfl rfl) ?_
  refine JL_q wn rfl (ex_extract rfl rfl) ?_
  refine JA rfl rfl ?_
  refine JA rfl rfl ?_
  refine JL_nt ?_
  refine J_sr ?_
  refine JM rfl rfl ?_
  refine JL_bnd fun y61 hy62 => ?_
  refine JL_q wn rfl (ex_nilCheck_tr 5 rfl rfl hy62) ?_
  refine JL_st wn rfl (st_field_tr 5 (Gtree.at_tail _) fi_77_1 rfl rfl rfl hy62) (fun q63 => ?_)
  refine JL_st wn rfl (st_load_pt_o 0 (opens_tr _) ti_41 rfl rfl) (fun v64 => ?_)
  refine JL_bnd fun y65 hy66 => ?_
  refine JL_q wn rfl (ex_nilCheck_tr 0 rfl rfl hy66) ?_
  refine JL_st wn rfl (st_field_tr 0 (Gtree.at_tail _) fi_77_1 rfl rfl rfl hy66) (fun q67 => ?_)
  refine JL_st wn rfl (st_load_pt_o 0 (opens_tr _) ti_41 rfl rfl) (fun v68 => ?_)
  refine JL_bnd fun r69 hr70 => ?_
  refine JL_call wn rfl Try.call65 rfl (Ca_self (fun _ => rfl) fun w hh => ih_ _ w (fun _ hk => hk.elim) _ _ (hh.rd0 0 rfl) _ hr70) (fun x71 => ?_)
  refine JM rfl rfl ?_
  refine JL_q wn rfl (ex_extract rfl rfl) ?_
  refine JL_q wn rfl (ex_extract rfl rfl) ?_
  refine JA rfl rfl ?_
  refine JA rfl rfl ?_
  refine JL_nt ?_
  refine J_seq ?_
  refine J_sr ?_
  refine JL_st wn rfl (st_buildSlice (vs := [.int .i64 2, .int .i64 3, .int .i64 4, .int .i64 5]) ([2, 3, 4, 5] : List Int) Try.underlying69 ti_2 zi_2 rfl rfl rfl (fun w hh => ⟨(Rd.mk_int _ _ _), (Rd.mk_int _ _ _), (Rd.mk_int _ _ _), (Rd.mk_int _ _ _), trivial⟩)) (fun b72 => ?_)
  refine JL_q wn rfl (ex_len_ow 0 Try.underlying69 rfl rfl) ?_
  refine JM rfl rfl ?_
  refine JL_nt ?_
  refine J_loop' (S := Int) (G := Unit) (F_impl_decodedExpr_L1 r4 r58 r69) (fun s73 _ => [(5, x6), (6, x60), (7, .bool r58.2), (8, x71), (9, .bool r69.2), (90, (.slice (some ⟨b72, 0, none⟩) 4 4)), (91, .int .i64 (([2, 3, 4, 5] : List Int).length : Int)), (92, .int .i64 s73)]) (fun s73 _ => [.rd x6 r4, .ow 67 x60 r58.1, .ow 67 x71 r69.1, .ow 2 (.slice (some ⟨b72, 0, none⟩) 4 4) ([2, 3, 4, 5] : List Int)]) 0 () ⟨rfl, rfl, rfl, rfl, rfl, rfl, rfl, rfl, trivial⟩ [11, 6, 1, 0] rfl rfl (fun s73 g74 => ?_) (fun s73 g74 => ?_)
  ·unfold F_impl_decodedExpr_L1
   refine J_sr ?_
   refine JL_q wn rfl (ex_lss rfl rfl) ?_
   refine JL_nt ?_
   refine J_seq ?_
   refine J_if rfl (fun h75 => ?_) (fun h75 => ?_)
   ·refine J_skip ?_
    refine N_then ?_
    refine J_seq ?_
    refine J_block ?_
    refine J_sr ?_
    refine JL_bnd fun y76 hy77 => ?_
    refine JL_q wn rfl (ex_index_ow 3 Try.underlying69 ti_2 rfl rfl rfl hy77) ?_
    refine JL_q wn rfl (ex_load_ow_int 3 ti_2 rfl rfl hy77) ?_
    refine JA rfl rfl ?_
    refine JL_nt ?_
    refine J_seq ?_
    refine J_seq ?_
    refine J_draw [] (by kernel_rfl) ?_
    refine JP_take (i := 0) [0, 1, 2, 3] [] rfl (by kernel_rfl) (by kernel_rfl) (by kernel_rfl) rfl rfl wn rfl (ex_move rfl) ?_
    refine JP_take (i := 1) [0, 1, 2, 3] [] rfl (by kernel_rfl) (by kernel_rfl) (by kernel_rfl) rfl rfl wn rfl (ex_not rfl) ?_
    refine JP_take (i := 2) [0, 1, 2, 3] [] rfl (by kernel_rfl) (by kernel_rfl) (by kernel_rfl) rfl rfl wn rfl (ex_move rfl) ?_
    refine JP_cond (fun h79 => ?_) (fun h79 => ?_)
    ·refine JP_pass (i := 3) rfl (by kernel_rfl) (by kernel_rfl) (by kernel_rfl) rfl rfl h79 rfl ?_
     refine JP_pass (i := 4) rfl (by kernel_rfl) (by kernel_rfl) (by kernel_rfl) rfl rfl h79 rfl ?_
     refine JP_take (i := 5) [0, 1, 2, 3] [] rfl (by kernel_rfl) (by kernel_rfl) (by kernel_rfl) rfl rfl wn rfl (ex_pick_true rfl h79 rfl) ?_
     refine JP_take (i := 6) [0, 1, 2, 3] [] rfl (by kernel_rfl) (by kernel_rfl) (by kernel_rfl) rfl rfl wn rfl (ex_move rfl) ?_
     refine JP_pass (i := 7) rfl (by kernel_rfl) (by kernel_rfl) (by kernel_rfl) rfl rfl rfl rfl ?_
     refine JP_pass (i := 8) rfl (by kernel_rfl) (by kernel_rfl) (by kernel_rfl) rfl rfl rfl rfl ?_
     refine JP_pass (i := 9) rfl (by kernel_rfl) (by kernel_rfl) (by kernel_rfl) rfl rfl rfl rfl ?_
     refine JP_pass (i := 10) rfl (by kernel_rfl) (by kernel_rfl) (by kernel_rfl) rfl rfl rfl rfl ?_
     refine JP_pass (i := 11) rfl (by kernel_rfl) (by kernel_rfl) (by kernel_rfl) rfl rfl rfl rfl ?_
     refine JP_pass (i := 12) rfl (by kernel_rfl) (by kernel_rfl) (by kernel_rfl) rfl rfl rfl rfl ?_
     refine JP_pass (i := 13) rfl (by kernel_rfl) (by kernel_rfl) (by kernel_rfl) rfl rfl rfl rfl ?_
     refine JP_pass (i := 14) rfl (by kernel_rfl) (by kernel_rfl) (by kernel_rfl) rfl rfl rfl rfl ?_
     refine JP_pass (i := 15) rfl (by kernel_rfl) (by kernel_rfl) (by kernel_rfl) rfl rfl rfl rfl ?_
     refine JP_pass (i := 16) rfl (by kernel_rfl) (by kernel_rfl) (by kernel_rfl) rfl rfl rfl rfl ?_
     refine JP_pass (i := 17) rfl (by kernel_rfl) (by kernel_rfl) (by kernel_rfl) rfl rfl rfl rfl ?_
     refine JP_pass (i := 18) rfl (by kernel_rfl) (by kernel_rfl) (by kernel_rfl) rfl rfl rfl rfl ?_
     refine JP_take (i := 19) [0, 1, 2, 3] [] rfl (by kernel_rfl) (by kernel_rfl) (by kernel_rfl) rfl rfl wn rfl (ex_pick_true rfl rfl rfl) ?_
     refine JP_go [] [] rfl rfl rfl (fun _ _ _ => ?_)
     refine JD_done (by kernel_rfl) ?_
     refine N_then ?_
     refine J_if_true rfl rfl ?_
     refine J_exit ?_
     refine N_then_exit ?_
     refine N_block_exit ?_
     refine N_then ?_
     refine J_region ?_
     refine JL_q wn rfl (ex_add rfl rfl) ?_
     refine JM rfl rfl ?_
     refine JL_nil ?_
     exact N_next' () ⟨rfl, rfl, rfl, rfl, rfl, rfl, rfl, rfl, trivial⟩ [0, 1, 2, 3] rfl rfl
    ·refine JP_take (i := 3) [0, 1, 2, 3] [] rfl (by kernel_rfl) (by kernel_rfl) (by kernel_rfl) rfl rfl (wants_some rfl rfl rfl h79) rfl (ex_move rfl) ?_
     refine JP_take (i := 4) [0, 1, 2, 3] [] rfl (by kernel_rfl) (by kernel_rfl) (by kernel_rfl) rfl rfl (wants_some rfl rfl rfl h79) rfl (ex_not rfl) ?_
     refine JP_take (i := 5) [0, 1, 2, 3] [] rfl (by kernel_rfl) (by kernel_rfl) (by kernel_rfl) rfl rfl wn rfl (ex_pick_false rfl h79 rfl) ?_
     refine JP_take (i := 6) [0, 1, 2, 3] [] rfl (by kernel_rfl) (by kernel_rfl) (by kernel_rfl) rfl rfl wn rfl (ex_move rfl) ?_
     refine JP_cond (fun h80 => ?_) (fun h80 => ?_)
     ·refine JP_pass (i := 7) rfl (by kernel_rfl) (by kernel_rfl) (by kernel_rfl) rfl rfl h80 rfl ?_
      refine JP_pass (i := 8) rfl (by kernel_rfl) (by kernel_rfl) (by kernel_rfl) rfl rfl h80 rfl ?_
      refine JP_pass (i := 9) rfl (by kernel_rfl) (by kernel_rfl) (by kernel_rfl) rfl rfl h80 rfl ?_
      refine JP_pass (i := 10) rfl (by kernel_rfl) (by kernel_rfl) (by kernel_rfl) rfl rfl h80 rfl ?_
      refine JP_pass (i := 11) rfl (by kernel_rfl) (by kernel_rfl) (by kernel_rfl) rfl rfl h80 rfl ?_
      refine JP_pass (i := 12) rfl (by kernel_rfl) (by kernel_rfl) (by kernel_rfl) rfl rfl h80 rfl ?_
      refine JP_pass (i := 13) rfl (by kernel_rfl) (by kernel_rfl) (by kernel_rfl) rfl rfl h80 rfl ?_
      refine JP_pass (i := 14) rfl (by kernel_rfl) (by kernel_rfl) (by kernel_rfl) rfl rfl h80 rfl ?_
      refine JP_pass (i := 15) rfl (by kernel_rfl) (by kernel_rfl) (by kernel_rfl) rfl rfl h80 rfl ?_
      refine JP_pass (i := 16) rfl (by kernel_rfl) (by kernel_rfl) (by kernel_rfl) rfl rfl h80 rfl ?_
      refine JP_pass (i := 17) rfl (by kernel_rfl) (by kernel_rfl) (by kernel_rfl) rfl rfl h80 rfl ?_
      refine JP_pass (i := 18) rfl (by kernel_rfl) (by kernel_rfl) (by kernel_rfl) rfl rfl h80 rfl ?_
      refine JP_take (i := 19) [0, 1, 2, 3] [] rfl (by kernel_rfl) (by kernel_rfl) (by kernel_rfl) rfl rfl wn rfl (ex_pick_true rfl h80 rfl) ?_
      refine JP_go [] [] rfl rfl rfl (fun _ _ _ => ?_)
      refine JD_done (by kernel_rfl) ?_
      refine N_then ?_
      refine J_if_true rfl rfl ?_
      refine J_exit ?_
      refine N_then_exit ?_
      refine N_block_exit ?_
      refine N_then ?_
      refine J_region ?_
      refine JL_q wn rfl (ex_add rfl rfl) ?_
      refine JM rfl rfl ?_
      refine JL_nil ?_
      exact N_next' () ⟨rfl, rfl, rfl, rfl, rfl, rfl, rfl, rfl, trivial⟩ [0, 1, 2, 3] rfl rfl
     ·refine JP_take (i := 7) [0, 1, 2, 3] [] rfl (by kernel_rfl) (by kernel_rfl) (by kernel_rfl) rfl rfl (wants_some rfl rfl rfl h80) rfl (ex_move rfl) ?_
      refine JP_bnd fun y81 hy82 => ?_
      refine JP_take (i := 8) [0, 1, 2, 3] [] rfl (by kernel_rfl) (by kernel_rfl) (by kernel_rfl) rfl rfl (wants_some rfl rfl rfl h80) rfl (ex_nilCheck_tr 0 rfl rfl hy82) ?_
      refine JP_sq (i := 9) [] rfl (by kernel_rfl) (by kernel_rfl) (by kernel_rfl) rfl (wants_some rfl rfl rfl h80) rfl (sq_field_tr 0 (Gtree.at_head _) fi_77_0 rfl rfl rfl hy82) (fun q83 => ?_)
      refine JP_sq (i := 10) [] rfl (by kernel_rfl) (by kernel_rfl) (by kernel_rfl) rfl (wants_some rfl rfl rfl h80) rfl (sq_load_pt_o 0 (opens_tr _) ti_41 rfl rfl) (fun v84 => ?_)
      refine JP_bnd fun y85 hy86 => ?_
      refine JP_take (i := 11) [0, 1, 2, 3, 4, 5] [] rfl (by kernel_rfl) (by kernel_rfl) (by kernel_rfl) rfl rfl (wants_some rfl rfl rfl h80) rfl (ex_nilCheck_tr 0 rfl rfl hy86) ?_
      refine JP_sq (i := 12) [] rfl (by kernel_rfl) (by kernel_rfl) (by kernel_rfl) rfl (wants_some rfl rfl rfl h80) rfl (sq_field_tr 0 (Gtree.at_head _) fi_77_0 rfl rfl rfl hy86) (fun q87 => ?_)
      refine JP_sq (i := 13) [] rfl (by kernel_rfl) (by kernel_rfl) (by kernel_rfl) rfl (wants_some rfl rfl rfl h80) rfl (sq_load_pt_o 0 (opens_tr _) ti_41 rfl rfl) (fun v88 => ?_)
      refine JP_take (i := 14) [0, 1, 2, 3, 4, 5, 6, 7] [] rfl (by kernel_rfl) (by kernel_rfl) (by kernel_rfl) rfl rfl (wants_some rfl rfl rfl h80) rfl (ex_move rfl) ?_
      refine JP_go [0, 1, 2, 3, 4, 5, 6, 7] [] rfl rfl rfl (fun w90 h1_91 hp89 => ?_)
      refine JD_bnd fun r92 hr93 => ?_
      refine JD_one (i := 15) (by kernel_rfl) ?_
      refine JO_call rfl (wants_some rfl rfl rfl h80) rfl Try.call79 rfl (Ca_of0 fun w hh => c_impl_markOf _ w (fun _ hk => hk.elim) _ _ hr93) (fun _ => ?_)
      refine JD_bnd fun r94 hr95 => ?_
      refine JD_one (i := 16) (by kernel_rfl) ?_
      refine JO_call rfl (wants_some rfl rfl rfl h80) rfl Try.call60 rfl (Ca_of (fun _ => rfl) fun w hh => c_impl_tagTree _ w hh.av' _ _ hr95) (fun x96 => ?_)
      refine JD_bnd fun r97 hr98 => ?_
      refine JD_one (i := 17) (by kernel_rfl) ?_
      refine JO_call rfl (wants_some rfl rfl rfl h80) rfl Try.call64 rfl (Ca_of0 fun w hh => c_impl_tree_equal _ w (fun _ hk => hk.elim) _ _ (hh.rd0 1 rfl) _ _ (hh.rd0 0 rfl) _ hr98) (fun _ => ?_)
      refine JD_take (i := 18) hp89 rfl (by kernel_rfl) (by kernel_rfl) (by kernel_rfl) (wants_some rfl rfl rfl h80) rfl (ex_not rfl) ?_
      refine JD_take (i := 19) hp89 rfl (by kernel_rfl) (by kernel_rfl) (by kernel_rfl) wn rfl (ex_pick_false rfl h80 rfl) ?_
      refine JD_done (by kernel_rfl) ?_
      refine N_then ?_
      refine J_if rfl (fun h99 => ?_) (fun h99 => ?_)
      ·refine J_exit ?_
       refine N_then_exit ?_
       refine N_block_exit ?_
       refine N_then ?_
       refine J_region ?_
       refine JL_q wn rfl (ex_add rfl rfl) ?_
       refine JM rfl rfl ?_
       refine JL_nil ?_
       exact N_next' () ⟨rfl, rfl, rfl, rfl, rfl, rfl, rfl, rfl, trivial⟩ [5, 6, 7, 8] rfl rfl
      ·refine J_skip ?_
       refine N_then ?_
       refine J_seq ?_
       refine J_sr ?_
       refine JM rfl rfl ?_
       refine JL_q wn rfl (ex_build si_67 rfl (.cons fi_67_0 rfl rfl .nil) (fun w hh => ⟨cv_int, trivial⟩)) ?_
       refine JL_bnd fun r100 hr101 => ?_
       refine JL_call wn rfl Try.call81 rfl (Ca_of0 fun w hh => c_impl_exprFollow _ w (fun _ hk => hk.elim) _ _ (GExpr.rdmk (Rd.mk_int _ _ _) (Rd.mk_int _ _ _)) _ hr101) (fun _ => ?_)
       refine JL_q wn rfl (ex_eql rfl rfl) ?_
       refine JL_nt ?_
       refine J_if rfl (fun h102 => ?_) (fun h102 => ?_)
       ·refine J_sr ?_
        refine JM rfl rfl ?_
        refine JL_q wn rfl (ex_build si_67 rfl (.cons fi_67_0 rfl rfl .nil) (fun w hh => ⟨cv_int, trivial⟩)) ?_
        refine JL_st wn rfl (st_buildSlice (vs := [.agg #[.int .i64 y76, .int .i64 0]]) ([(⟨y76, 0⟩ : GExpr)] : List GExpr) Try.underlying52 ti_67 zi_67 rfl rfl rfl (fun w hh => ⟨(GExpr.rdmk (Rd.mk_int _ _ _) (Rd.mk_int _ _ _)), trivial⟩)) (fun b103 => ?_)
        refine JM rfl rfl ?_
        refine JM rfl rfl ?_
        refine JL_ctx (fun w hh => hh.tokf 0 rfl rfl) ?_
        refine JL_ctx (fun w hh => hh.tokf 8 rfl rfl) ?_
        refine JL_ctx (fun w hh => hh.tokf 10 rfl rfl) ?_
        refine JL_st wn rfl (st_buildSlice_od (vs := [(.slice (some ⟨b103, 0, none⟩) 1 1), x60, x71]) (B := ((((.slice (some ⟨b103, 0, none⟩) 1 1) : Value).ownBlock.toList ++ []) ++ (((x60 : Value).ownBlock.toList ++ []) ++ (((x71 : Value).ownBlock.toList ++ []) ++ [])))) ([([(⟨y76, 0⟩ : GExpr)] : List GExpr), r58.1, r69.1] : List (List GExpr)) [2, 1, 0] Try.underlying114 ti_52 zi_52 rfl rfl rfl rfl rfl (fun w hh => (dwv_cons (hh.dw 2 rfl) (dwv_cons (hh.dw 1 rfl) (dwv_cons (hh.dw 0 rfl) dwv_nil))))) (fun b104 => ?_)
        refine JL_bnd fun r105 hr106 => ?_
        refine JL_call wn rfl Try.call82 rfl (Ca_self (fun _ => rfl) fun w hh => c_slices_Concat_Simpl_Expr_impl_Expr _ w (fun _ hk => hk.elim) _ _ (hh.od0 0 rfl) _ hr106) (fun x107 => ?_)
        refine JA rfl rfl ?_
        refine JA rfl rfl ?_
        refine JL_nt ?_
        refine J_ret ?_
        refine N_then_ret ?_
        refine N_block_ret ?_
        refine N_then_ret ?_
        refine N_round_ret ?_
        refine N_then_ret ?_
        exact N_ret2 rfl (rv_tmp rfl) (rv_tmp rfl) (fun w hh => ⟨x107, rfl, hh.sel [0] rfl⟩)
       ·refine J_skip ?_
        refine N_then ?_
        refine J_seq ?_
        refine J_ctx (fun w hh => hh.tokf 7 rfl rfl) ?_
        refine J_draw [0] (by kernel_rfl) ?_
        refine JP_take (i := 0) [1, 2, 3, 4, 5, 6, 7, 8, 9] [0] rfl (by kernel_rfl) (by kernel_rfl) (by kernel_rfl) rfl rfl wn rfl (ex_move rfl) ?_
        refine JP_take (i := 1) [1, 2, 3, 4, 5, 6, 7, 8, 9] [0] rfl (by kernel_rfl) (by kernel_rfl) (by kernel_rfl) rfl rfl wn rfl (ex_build si_67 rfl (.cons fi_67_0 rfl rfl .nil) (fun w hh => ⟨cv_int, trivial⟩)) ?_
        refine JP_take (i := 3) [1, 2, 3, 4, 5, 6, 7, 8, 9] [0] rfl (by kernel_rfl) (by kernel_rfl) (by kernel_rfl) rfl rfl wn rfl (ex_move rfl) ?_
        refine JP_take (i := 5) [1, 2, 3, 4, 5, 6, 7, 8, 9] [0] rfl (by kernel_rfl) (by kernel_rfl) (by kernel_rfl) rfl rfl wn rfl (ex_move rfl) ?_
        refine JP_take (i := 6) [1, 2, 3, 4, 5, 6, 7, 8, 9] [0] rfl (by kernel_rfl) (by kernel_rfl) (by kernel_rfl) rfl rfl wn rfl (ex_len_rd 7 Try.underlying52 rfl rfl) ?_
        refine JP_take (i := 7) [1, 2, 3, 4, 5, 6, 7, 8, 9] [0] rfl (by kernel_rfl) (by kernel_rfl) (by kernel_rfl) rfl rfl wn rfl (ex_eql rfl rfl) ?_
        refine JP_go [1, 2, 3, 4, 5, 6, 7, 8, 9] [0] rfl rfl rfl (fun w109 h1_110 hp108 => ?_)
        refine JD_one (i := 2) (by kernel_rfl) ?_
        refine JO_st rfl wn rfl (st_buildSlice (vs := [.agg #[.int .i64 y76, .int .i64 0]]) ([(⟨y76, 0⟩ : GExpr)] : List GExpr) Try.underlying52 ti_67 zi_67 rfl rfl rfl (fun w hh => ⟨(GExpr.rdmk (Rd.mk_int _ _ _) (Rd.mk_int _ _ _)), trivial⟩)) (fun _ hk => nomatch hk) (fun b111 => ?_)
        refine JD_bnd fun z112 hz113 => ?_
        refine JD_one (i := 4) (by kernel_rfl) ?_
        refine JO_st2 0 [0] [1, 2, 3, 4, 5, 6, 7, 8, 9] [2, 3, 4, 5, 6, 7, 8, 9, 10] rfl rfl rfl rfl rfl rfl wn rfl (st_append 0 Try.underlying52 ti_67 zi_67 rfl bi_67 rfl rfl rfl rfl (fun w hh => hh.src_ow 8 rfl) hz113) (fun _ hk => hk) (fun v114 => ?_)
        refine JD_take (i := 8) hp108 rfl (by kernel_rfl) (by kernel_rfl) (by kernel_rfl) wn rfl (ex_move rfl) ?_
        refine JD_cond (fun h115 => ?_) (fun h115 => ?_)
        ·refine JD_take (i := 9) hp108 rfl (by kernel_rfl) (by kernel_rfl) (by kernel_rfl) (wants_some rfl rfl rfl h115) rfl (ex_move rfl) ?_
         refine JD_bnd fun y116 hy117 => ?_
         refine JD_sq (i := 10) (fs := fun q118 => [.pt q118 y116]) [0] h1_110 rfl rfl (by kernel_rfl) (by kernel_rfl) (by kernel_rfl) (wants_some rfl rfl rfl h115) rfl (sq_index 8 Try.underlying52 ti_67 rfl rfl rfl hy117) (fun _ => rfl) (fun q118 h1_119 => ?_)
         refine JD_sq (i := 11) (fs := fun q120 => [.pt q120 y116.Kind]) [1] h1_119 rfl rfl (by kernel_rfl) (by kernel_rfl) (by kernel_rfl) (wants_some rfl rfl rfl h115) rfl (sq_field_pt 0 (GExpr.at_Kind _) fi_67_0 rfl rfl rfl) (fun _ => rfl) (fun q120 h1_121 => ?_)
         refine JD_sq (i := 12) [2] h1_121 rfl rfl (by kernel_rfl) (by kernel_rfl) (by kernel_rfl) (wants_some rfl rfl rfl h115) rfl (sq_load_pt_o 0 (opens_int _) ti_2 rfl rfl) (fun _ => rfl) (fun _ h1_123 => ?_)
         refine JD_take (i := 13) hp108 rfl (by kernel_rfl) (by kernel_rfl) (by kernel_rfl) (wants_some rfl rfl rfl h115) rfl (ex_eql rfl rfl) ?_
         refine JD_take (i := 14) hp108 rfl (by kernel_rfl) (by kernel_rfl) (by kernel_rfl) wn rfl (ex_pick_true rfl h115 rfl) ?_
         refine JD_take (i := 15) hp108 rfl (by kernel_rfl) (by kernel_rfl) (by kernel_rfl) wn rfl (ex_assign rfl) ?_
         refine JD_take (i := 16) hp108 rfl (by kernel_rfl) (by kernel_rfl) (by kernel_rfl) wn rfl (ex_assign rfl) ?_
         refine JD_done (by kernel_rfl) ?_
         refine N_then ?_
         refine J_ret ?_
         refine N_block_ret ?_
         refine N_then_ret ?_
         refine N_round_ret ?_
         refine N_then_ret ?_
         exact N_ret2 rfl (rv_tmp rfl) (rv_tmp rfl) (fun w hh => ⟨v114, rfl, hh.sel [2] rfl⟩)
        ·refine JD_pass (i := 9) rfl (by kernel_rfl) (by kernel_rfl) (by kernel_rfl) rfl rfl h115 rfl ?_
         refine JD_pass (i := 10) rfl (by kernel_rfl) (by kernel_rfl) (by kernel_rfl) rfl rfl h115 rfl ?_
         refine JD_pass (i := 11) rfl (by kernel_rfl) (by kernel_rfl) (by kernel_rfl) rfl rfl h115 rfl ?_
         refine JD_pass (i := 12) rfl (by kernel_rfl) (by kernel_rfl) (by kernel_rfl) rfl rfl h115 rfl ?_
         refine JD_pass (i := 13) rfl (by kernel_rfl) (by kernel_rfl) (by kernel_rfl) rfl rfl h115 rfl ?_
         refine JD_take (i := 14) hp108 rfl (by kernel_rfl) (by kernel_rfl) (by kernel_rfl) wn rfl (ex_pick_false rfl h115 rfl) ?_
         refine JD_take (i := 15) hp108 rfl (by kernel_rfl) (by kernel_rfl) (by kernel_rfl) wn rfl (ex_assign rfl) ?_
         refine JD_take (i := 16) hp108 rfl (by kernel_rfl) (by kernel_rfl) (by kernel_rfl) wn rfl (ex_assign rfl) ?_
         refine JD_done (by kernel_rfl) ?_
         refine N_then ?_
         refine J_ret ?_
         refine N_block_ret ?_
         refine N_then_ret ?_
         refine N_round_ret ?_
         refine N_then_ret ?_
         exact N_ret2 rfl (rv_tmp rfl) (rv_tmp rfl) (fun w hh => ⟨v114, rfl, hh.sel [0] rfl⟩)
   ·refine J_exit ?_
    refine N_then_exit ?_
    exact N_break' () ⟨rfl, rfl, rfl, rfl, rfl, rfl, rfl, rfl, trivial⟩ [0, 1, 2, 3] rfl rfl
  ·refine N_then ?_
   refine J_sr ?_
   refine JA rfl rfl ?_
   refine JA rfl rfl ?_
   refine JL_nt ?_
   refine J_ret ?_
   refine N_ctx (fun w hh => SH.ow_nil (α := GExpr) 67 hh) ?_
   exact N_ret2 rfl (rv_tmp rfl) (rv_tmp rfl) (fun w hh => ⟨(.slice none 0 0 : Value), rfl, hh.sel [0] rfl⟩)
theorem c_impl_decodedExpr (A : Nat → Prop) (w : World) (hA : ∀ k, A k → k < w.heap.size) (v0_ : Value) (p0 : Tre) (hp0 : Rd A w v0_ p0) (r : (List GExpr) × Bool) (hr : F_impl_decodedExpr p0 = some r) :
  Con Try.prog 65 [v0_] A w (fun x_ : Value => .tuple #[x_, .bool r.2]) (fun x_ => [.ow 67 x_ r.1]) := by
 obtain ⟨k_, hk_⟩ := fixR_some hr
 exact c_impl_decodedExpr_ind k_ A w hA v0_ p0 hp0 r hk_
set_option maxHeartbeats 40000000 in
theorem c_impl_setTo (A : Nat → Prop) (w : World) (hA : ∀ k, A k → k < w.heap.size) (p0 : Int) (v1_ : Value) (p1 : (List GExpr)) (hp1 : Rd A w v1_ p1) (r : GCommand) (hr : F_impl_setTo p0 p1 = some r) :
  Con Try.prog 66 [.int .i64 p0, v1_] A w (fun x_ : Value => .agg #[.int .i64 r.Kind, .int .i64 r.Variable, .int .i64 r.Length, x_]) (fun x_ => [.pr (Sub v1_ p1 x_ r.Value_)]) := by
 refine Con_of (v := fun (r : GCommand) (x_ : Value) => .agg #[.int .i64 r.Kind, .int .i64 r.Variable, .int .i64 r.Length, x_]) (fs := fun r x_ => [.pr (Sub v1_ p1 x_ r.Value_)]) Try.func66 rfl Try.ntmps66 rfl ((SH.start hA).start_rd rfl hp1) rfl ?_ hr
 unfold F_impl_setTo
 refine J_sr ?_
 refine JL_st wn rfl (st_alloc zi_54 rfl) (fun b1 => ?_)
 refine JL_nt ?_
 refine J_sr ?_
 refine JM rfl rfl ?_
 refine JM rfl rfl ?_
 refine JL_q wn rfl (ex_build si_54 rfl (.cons fi_54_1 rfl rfl (.cons fi_54_3 rfl rfl .nil)) (fun w hh => ⟨cv_int, (hh.cv 1 rfl), trivial⟩)) ?_
 refine JL_sk wn (sk_store_bx' 0 ti_54 rfl rfl (fun w hh => (cv_aggs ⟨cv_int, cv_int, cv_int, (hh.cv 1 rfl), trivial⟩)) rfl rfl rfl rfl) ?_
 refine JL_nt ?_
 refine J_ret ?_
 refine N_ctx (fun w hh => hh.cons_pr (p := Sub v1_ p1 v1_ p1) Sub.refl) ?_
 exact N_ret1 rfl (rv_cell 1 rfl rfl ti_54 rfl) (fun w hh => ⟨v1_, rfl, hh.sel [0] rfl⟩)
set_option maxHeartbeats 40000000 in
theorem c_impl_size_impl_Command (A : Nat → Prop) (w : World) (hA : ∀ k, A k → k < w.heap.size) (v0_ : Value) (p0 : (List GCommand)) (hp0 : Rd A w v0_ p0) (r : Int) (hr : F_impl_size_impl_Command p0 = some r) :
  Con Try.prog 83 [v0_] A w (fun x_ : Unit => .int .i64 r) (fun x_ => []) := by
 refine Con_of (v := fun (r : Int) (x_ : Unit) => .int .i64 r) (fs := fun r x_ => []) Try.func83 rfl Try.ntmps83 rfl ((SH.start hA).start_rd rfl hp0) rfl ?_ hr
 unfold F_impl_size_impl_Command
 refine J_sr ?_
 refine JA rfl rfl ?_
 refine JL_nt ?_
 refine J_sr ?_
 refine JM rfl rfl ?_
 refine JL_q wn rfl (ex_len_rd 0 Try.underlying24 rfl rfl) ?_
 refine JA rfl rfl ?_
 refine JL_nt ?_
 refine J_ret ?_
 exact N_ret1 rfl (rv_tmp rfl) (fun w hh => ⟨(), rfl, hh.sel [] rfl⟩)
set_option maxHeartbeats 40000000 in
theorem c_impl_enclosed (A : Nat → Prop) (w : World) (hA : ∀ k, A k → k < w.heap.size) (v0_ : Value) (p0 : (List GExpr)) (hp0 : Rd A w v0_ p0) (v1_ : Value) (p1 : (List GCommand)) (hp1 : Rd A w v1_ p1) (r : (List GCommand)) (hr : F_impl_enclosed p0 p1 = some r) :
  Con Try.prog 67 [v0_, v1_] A w (fun x_ : Value => x_) (fun x_ => [.ow 54 x_ r]) := by
 refine Con_of (v := fun (r : (List GCommand)) (x_ : Value) => x_) (fs := fun r x_ => [.ow 54 x_ r]) Try.func67 rfl Try.ntmps67 rfl (((SH.start hA).start_rd rfl hp0).start_rd rfl hp1) rfl ?_ hr
 unfold F_impl_enclosed
 refine J_sr ?_
 refine JA rfl rfl ?_
 refine JL_nt ?_
 refine J_sr ?_
 refine JM rfl rfl ?_
 refine JL_bnd fun r1 hr2 => ?_
 refine JL_call wn rfl Try.call83 rfl (Ca_of0 fun w hh => c_impl_size_impl_Command _ w (fun _ hk => hk.elim) _ _ (hh.rd0 0 rfl) _ hr2) (fun _ => ?_)
 refine JM rfl rfl ?_
 refine JL_q wn rfl (ex_build si_54 rfl (.cons fi_54_0 rfl rfl (.cons fi_54_2 rfl rfl (.cons fi_54_3 rfl rfl .nil))) (fun w hh => ⟨cv_int, cv_int, (hh.cv 1 rfl), trivial⟩)) ?_
 refine JL_st wn rfl (st_buildSlice (vs := [.agg #[.int .i64 1, .int .i64 0, .int .i64 r1, v0_]]) ([(⟨1, 0, r1, p0⟩ : GCommand)] : List GCommand) Try.underlying24 ti_54 zi_54 rfl rfl rfl (fun w hh => ⟨(GCommand.rdmk (Rd.mk_int _ _ _) (Rd.mk_int _ _ _) (Rd.mk_int _ _ _) (hh.rd 1 rfl)), trivial⟩)) (fun b3 => ?_)
 refine JM rfl rfl ?_
 refine JL_bnd fun z4 hz5 => ?_
 refine JL_st wn rfl (st_append 0 Try.underlying24 ti_54 zi_54 rfl bi_54 rfl rfl rfl rfl (fun w hh => hh.src_rd 1 rfl) hz5) (fun v6 => ?_)
 refine JA rfl rfl ?_
 refine JL_nt ?_
 refine J_ret ?_
 exact N_ret1 rfl (rv_tmp rfl) (fun w hh => ⟨v6, rfl, hh.sel [0] rfl⟩)
set_option maxHeartbeats 40000000 in
theorem c_impl_decodedWhile_ind : ∀ (k_ : Nat) (A : Nat → Prop) (w : World) (hA : ∀ k, A k → k < w.heap.size) (v0_ : Value) (p0 : Tre) (hp0 : Rd A w v0_ p0) (r : (List GCommand) × Bool) (hr : fixN (fun (rec_ : Tre → Option ((List GCommand) × Bool)) (a_ : Tre) => F_impl_decodedWhile_step (fun p0 => rec_ p0) a_) k_ p0 = some r),
  Con Try.prog 43 [v0_] A w (fun x_ : Value => .tuple #[x_, .bool r.2]) (fun x_ => [.ow 54 x_ r.1]) := by
 intro k_
 induction k_ with
 | zero => intro A w hA v0_ p0 hp0 r hr; cases hr
 | succ k_ ih_ =>
 intro A w hA v0_ p0 hp0 r hr
 replace hr : F_impl_decodedWhile_step (fun p0 => fixN (fun (rec_ : Tre → Option ((List GCommand) × Bool)) (a_ : Tre) => F_impl_decodedWhile_step (fun p0 => rec_ p0) a_) k_ p0) p0 = some r := hr
 refine Con_of (v := fun (r : (List GCommand) × Bool) (x_ : Value) => .tuple #[x_, .bool r.2]) (fs := fun r x_ => [.ow 54 x_ r.1]) Try.func43 rfl Try.ntmps43 rfl ((SH.start hA).start_rd rfl hp0) rfl ?_ hr
 unfold F_impl_decodedWhile_step
 refine J_sr ?_
 refine JA rfl rfl ?_
 refine JA rfl rfl ?_
 refine JL_nt ?_
 refine J_sr ?_
 refine JL_st wn rfl (st_buildSlice_od (vs := []) (B := ([] : List Nat)) ([] : List GCommand) [] Try.underlying24 ti_54 zi_54 rfl rfl rfl rfl rfl (fun w hh => dwv_nil)) (fun b1 => ?_)
 refine JA rfl rfl ?_
 refine JL_nt ?_
 refine J_seq ?_
 refine J_sr ?_
 refine JM rfl rfl ?_
 refine JL_bnd fun r2 hr3 => ?_
 refine JL_call wn rfl Try.call62 rfl (Ca_of (fun _ => rfl) fun w hh => c_impl_listOfTree _ w hh.av' _ _ (hh.rd 1 rfl) _ hr3) (fun x4 => ?_)
 refine JL_q wn rfl (ex_len_ow 0 Try.underlying92 rfl rfl) ?_
 refine JM rfl rfl ?_
 refine JL_nt ?_
 refine J_ctx (fun w hh => hh.od_ow 1 rfl) ?_
 refine J_loop' (S := (List GCommand) × Int) (G := Value) (F_impl_decodedWhile_L1 (fun p0 => fixN (fun (rec_ : Tre → Option ((List GCommand) × Bool)) (a_ : Tre) => F_impl_decodedWhile_step (fun p0 => rec_ p0) a_) k_ p0) r2) (fun s5 g6 => [(4, g6), (17, x4), (18, .int .i64 (r2.length : Int)), (19, .int .i64 s5.2)]) (fun s5 g6 => [.ow 54 g6 s5.1, .ow 41 x4 r2]) (([] : List GCommand), 0) (.slice (some ⟨b1, 0, none⟩) 0 0) ⟨rfl, rfl, rfl, rfl, trivial⟩ [1, 0] rfl rfl (fun s5 g6 => ?_) (fun s5 g6 => ?_)
 ·unfold F_impl_decodedWhile_L1
  refine J_sr ?_
  refine JL_q wn rfl (ex_lss rfl rfl) ?_
  refine JL_nt ?_
  refine J_seq ?_
  refine J_if rfl (fun h7 => ?_) (fun h7 => ?_)
  ·refine J_skip ?_
   refine N_then ?_
   refine J_seq ?_
   refine J_block ?_
   refine J_sr ?_
   refine JL_bnd fun y8 hy9 => ?_
   refine JL_ow_open (v := x4) 1 rfl hy9 ?_; rintro b10 cap11 rfl
   refine JL_q wn rfl (ex_index_ow 1 Try.underlying92 ti_41 rfl rfl rfl hy9) ?_
   refine JL_st wn rfl (st_load_ow_o 1 (opens_tr _) ti_41 rfl rfl hy9) (fun v12 => ?_)
   refine JA rfl rfl ?_
   refine JL_nt ?_
   refine J_sr ?_
   refine JM rfl rfl ?_
   refine JL_bnd fun r13 hr14 => ?_
   refine JL_call wn rfl Try.call23 rfl (Ca_of (fun _ => rfl) fun w hh => c_impl_tree_headOf _ w hh.av' _ _ (hh.rd 0 rfl) _ hr14) (fun x15 => ?_)
   refine JM rfl rfl ?_
   refine JL_bnd fun r16 hr17 => ?_
   refine JL_call wn rfl Try.call63 rfl (Ca_of (fun _ => rfl) fun w hh => c_impl_tree_tailOf _ w hh.av' _ _ (hh.rd 1 rfl) _ hr17) (fun x18 => ?_)
   refine JA rfl rfl ?_
   refine JA rfl rfl ?_
   refine JL_nt ?_
   refine J_block ?_
   refine J_seq ?_
   refine J_cut' (S' := Bool) (G' := Unit) (fun s19 _ => [(4, g6), (6, v12), (7, x15), (8, x18), (17, (.slice (some ⟨b10, 0, none⟩) r2.length cap11)), (18, .int .i64 (r2.length : Int)), (19, .int .i64 s5.2), (27, .bool s19)]) (fun s19 _ => [.ow 54 g6 s5.1, .rd v12 y8, .rd x15 r13, .rd x18 r16, .ow 41 (.slice (some ⟨b10, 0, none⟩) r2.length cap11) r2]) ?_ (fun s19 g20 => ?_)
   ·refine J_region ?_
    refine JM rfl rfl ?_
    refine JL_q wn rfl (ex_ne_tr 2 Try.underlying41 rfl rfl rfl) ?_
    refine JM rfl rfl ?_
    refine JL_cond (fun h21 => ?_) (fun h21 => ?_)
    ·refine JL_q (wants_some rfl rfl rfl h21) rfl (ex_move rfl) ?_
     refine JL_bnd fun r22 hr23 => ?_
     refine JL_call (wants_some rfl rfl rfl h21) rfl Try.call60 rfl (Ca_of (fun _ => rfl) fun w hh => c_impl_tagTree _ w hh.av' _ _ hr23) (fun x24 => ?_)
     refine JL_bnd fun r25 hr26 => ?_
     refine JL_call (wants_some rfl rfl rfl h21) rfl Try.call64 rfl (Ca_of0 fun w hh => c_impl_tree_equal _ w (fun _ hk => hk.elim) _ _ (hh.rd0 2 rfl) _ _ (hh.rd0 0 rfl) _ hr26) (fun _ => ?_)
     refine JL_q wn rfl (ex_pick_true rfl h21 rfl) ?_
     refine JA rfl rfl ?_
     refine JL_nil ?_
     exact N_meet' () ⟨rfl, rfl, rfl, rfl, rfl, rfl, rfl, rfl, trivial⟩ [4, 3, 2, 1, 5] rfl rfl
    ·refine JL_passed rfl rfl rfl h21 ?_
     refine JL_passed rfl rfl rfl h21 ?_
     refine JL_passed rfl rfl rfl h21 ?_
     refine JL_q wn rfl (ex_pick_false rfl h21 rfl) ?_
     refine JA rfl rfl ?_
     refine JL_nil ?_
     exact N_meet' () ⟨rfl, rfl, rfl, rfl, rfl, rfl, rfl, rfl, trivial⟩ [3, 2, 1, 0, 4] rfl rfl
   ·refine N_then ?_
    refine J_if rfl (fun h27 => ?_) (fun h27 => ?_)
    ·refine J_sr ?_
     refine JM rfl rfl ?_
     refine JL_bnd fun r28 hr29 => ?_
     refine JL_call wn rfl Try.call65 rfl (Ca_self (fun _ => rfl) fun w hh => c_impl_decodedExpr _ w (fun _ hk => hk.elim) _ _ (hh.rd0 3 rfl) _ hr29) (fun x30 => ?_)
     refine JM rfl rfl ?_
     refine JL_q wn rfl (ex_extract rfl rfl) ?_
     refine JL_q wn rfl (ex_extract rfl rfl) ?_
     refine JA rfl rfl ?_
     refine JA rfl rfl ?_
     refine JL_nt ?_
     refine J_seq ?_
     refine J_sr ?_
     refine JM rfl rfl ?_
     refine JL_q wn rfl (ex_not rfl) ?_
     refine JL_nt ?_
     refine J_if rfl (fun h31 => ?_) (fun h31 => ?_)
     ·refine J_sr ?_
      refine JA rfl rfl ?_
      refine JA rfl rfl ?_
      refine JL_nt ?_
      refine J_ret ?_
      refine N_then_ret ?_
      refine N_block_ret ?_
      refine N_block_ret ?_
      refine N_then_ret ?_
      refine N_round_ret ?_
      refine N_then_ret ?_
      refine N_ctx (fun w hh => SH.od_nil (α := GCommand) 54 hh) ?_
      refine N_ctx (fun w hh => hh.od_ow 0 rfl) ?_
      exact N_ret2 rfl (rv_tmp rfl) (rv_tmp rfl) (fun w hh => ⟨(.slice none 0 0 : Value), rfl, hh.sel [0] rfl⟩)
     ·refine J_skip ?_
      refine N_then ?_
      refine J_region ?_
      refine JM rfl rfl ?_
      refine JM rfl rfl ?_
      refine JL_bnd fun r32 hr33 => ?_
      refine JL_call wn rfl Try.call66 rfl (Ca_self (fun _ => rfl) fun w hh => c_impl_setTo _ w (fun _ hk => hk.elim) _ _ _ (hh.ow0 0 rfl) _ hr33) (fun x34 => ?_)
      refine JL_ctx (fun w hh => hh.tokf 1 rfl rfl) ?_
      refine JL_ctx (fun w hh => hh.sub_rd 2 rfl (hh.pr 1 rfl)) ?_
      refine JL_ctx (fun w hh => hh.sub_tkn 1 rfl (hh.pr 2 rfl)) ?_
      refine JL_st wn rfl (st_buildSlice_od (vs := [.agg #[.int .i64 r32.Kind, .int .i64 r32.Variable, .int .i64 r32.Length, x34]]) (B := (((x30 : Value).ownBlock.toList ++ []) ++ [])) ([r32] : List GCommand) [1] Try.underlying24 ti_54 zi_54 rfl rfl rfl rfl rfl (fun w hh => (dwv_cons (GCommand.dw (hh.dw 1 rfl)) dwv_nil))) (fun b35 => ?_)
      refine JL_bnd fun z36 hz37 => ?_
      refine JL_st wn rfl (st_append 5 Try.underlying24 ti_54 zi_54 rfl bi_54 rfl rfl rfl rfl (fun w hh => hh.src_od 0 rfl) hz37) (fun v38 => ?_)
      refine JA rfl rfl ?_
      refine JL_nil ?_
      refine N_block ?_
      refine N_block ?_
      refine N_then ?_
      refine J_region ?_
      refine JL_q wn rfl (ex_add rfl rfl) ?_
      refine JM rfl rfl ?_
      refine JL_nil ?_
      exact N_next' v38 ⟨rfl, rfl, rfl, rfl, trivial⟩ [5, 9] rfl rfl
    ·refine J_sr ?_
     refine JM rfl rfl ?_
     refine JL_q wn rfl (ex_ne_tr 1 Try.underlying41 rfl rfl rfl) ?_
     refine JM rfl rfl ?_
     refine JL_cond (fun h39 => ?_) (fun h39 => ?_)
     ·refine JL_q (wants_some rfl rfl rfl h39) rfl (ex_move rfl) ?_
      refine JL_bnd fun r40 hr41 => ?_
      refine JL_call (wants_some rfl rfl rfl h39) rfl Try.call60 rfl (Ca_of (fun _ => rfl) fun w hh => c_impl_tagTree _ w hh.av' _ _ hr41) (fun x42 => ?_)
      refine JL_bnd fun r43 hr44 => ?_
      refine JL_call (wants_some rfl rfl rfl h39) rfl Try.call64 rfl (Ca_of0 fun w hh => c_impl_tree_equal _ w (fun _ hk => hk.elim) _ _ (hh.rd0 3 rfl) _ _ (hh.rd0 0 rfl) _ hr44) (fun _ => ?_)
      refine JL_q wn rfl (ex_pick_true rfl h39 rfl) ?_
      refine JM rfl rfl ?_
      refine JL_cond (fun h45 => ?_) (fun h45 => ?_)
      ·refine JL_q (wants_some rfl rfl rfl h45) rfl (ex_move rfl) ?_
       refine JL_q (wants_some rfl rfl rfl h45) rfl (ex_ne_tr 4 Try.underlying41 rfl rfl rfl) ?_
       refine JL_q wn rfl (ex_pick_true rfl h45 rfl) ?_
       refine JA rfl rfl ?_
       refine JL_nt ?_
       refine J_if rfl (fun h46 => ?_) (fun h46 => ?_)
       ·refine J_sr ?_
        refine JM rfl rfl ?_
        refine JL_bnd fun y47 hy48 => ?_
        refine JL_q wn rfl (ex_nilCheck_tr 4 rfl rfl hy48) ?_
        refine JL_st wn rfl (st_field_tr 4 (Gtree.at_head _) fi_77_0 rfl rfl rfl hy48) (fun q49 => ?_)
        refine JL_st wn rfl (st_load_pt_o 0 (opens_tr _) ti_41 rfl rfl) (fun v50 => ?_)
        refine JL_bnd fun r51 hr52 => ?_
        refine JL_call wn rfl Try.call65 rfl (Ca_self (fun _ => rfl) fun w hh => c_impl_decodedExpr _ w (fun _ hk => hk.elim) _ _ (hh.rd0 0 rfl) _ hr52) (fun x53 => ?_)
        refine JM rfl rfl ?_
        refine JL_q wn rfl (ex_extract rfl rfl) ?_
        refine JL_q wn rfl (ex_extract rfl rfl) ?_
        refine JA rfl rfl ?_
        refine JA rfl rfl ?_
        refine JL_nt ?_
        refine J_sr ?_
        refine JM rfl rfl ?_
        refine JL_bnd fun y54 hy55 => ?_
        refine JL_q wn rfl (ex_nilCheck_tr 7 rfl rfl hy55) ?_
        refine JL_st wn rfl (st_field_tr 7 (Gtree.at_tail _) fi_77_1 rfl rfl rfl hy55) (fun q56 => ?_)
        refine JL_st wn rfl (st_load_pt_o 0 (opens_tr _) ti_41 rfl rfl) (fun v57 => ?_)
        refine JL_bnd fun r58 hr59 => ?_
        refine JL_call wn rfl Try.call43 rfl (Ca_of (fun _ => rfl) fun w hh => ih_ _ w hh.av' _ _ (hh.rd 0 rfl) _ hr59) (fun x60 => ?_)
        refine JM rfl rfl ?_
        refine JL_q wn rfl (ex_extract rfl rfl) ?_
        refine JL_q wn rfl (ex_extract rfl rfl) ?_
        refine JA rfl rfl ?_
        refine JA rfl rfl ?_
        refine JL_nt ?_
        refine J_seq ?_
        refine J_sr ?_
        refine JM rfl rfl ?_
        refine JL_q wn rfl (ex_not rfl) ?_
        refine JM rfl rfl ?_
        refine JL_cond (fun h61 => ?_) (fun h61 => ?_)
        ·refine JL_passed rfl rfl rfl h61 ?_
         refine JL_passed rfl rfl rfl h61 ?_
         refine JL_q wn rfl (ex_pick_true rfl h61 rfl) ?_
         refine JL_nt ?_
         refine J_if_true rfl rfl ?_
         refine J_sr ?_
         refine JA rfl rfl ?_
         refine JA rfl rfl ?_
         refine JL_nt ?_
         refine J_ret ?_
         refine N_then_ret ?_
         refine N_block_ret ?_
         refine N_block_ret ?_
         refine N_then_ret ?_
         refine N_round_ret ?_
         refine N_then_ret ?_
         refine N_ctx (fun w hh => SH.od_nil (α := GCommand) 54 hh) ?_
         refine N_ctx (fun w hh => hh.od_ow 0 rfl) ?_
         exact N_ret2 rfl (rv_tmp rfl) (rv_tmp rfl) (fun w hh => ⟨(.slice none 0 0 : Value), rfl, hh.sel [0] rfl⟩)
        ·refine JL_q (wants_some rfl rfl rfl h61) rfl (ex_move rfl) ?_
         refine JL_q (wants_some rfl rfl rfl h61) rfl (ex_not rfl) ?_
         refine JL_q wn rfl (ex_pick_false rfl h61 rfl) ?_
         refine JL_nt ?_
         refine J_if rfl (fun h62 => ?_) (fun h62 => ?_)
         ·refine J_sr ?_
          refine JA rfl rfl ?_
          refine JA rfl rfl ?_
          refine JL_nt ?_
          refine J_ret ?_
          refine N_then_ret ?_
          refine N_block_ret ?_
          refine N_block_ret ?_
          refine N_then_ret ?_
          refine N_round_ret ?_
          refine N_then_ret ?_
          refine N_ctx (fun w hh => SH.od_nil (α := GCommand) 54 hh) ?_
          refine N_ctx (fun w hh => hh.od_ow 0 rfl) ?_
          exact N_ret2 rfl (rv_tmp rfl) (rv_tmp rfl) (fun w hh => ⟨(.slice none 0 0 : Value), rfl, hh.sel [0] rfl⟩)
         ·refine J_skip ?_
          refine N_then ?_
          refine J_region ?_
          refine JM rfl rfl ?_
          refine JM rfl rfl ?_
          refine JM rfl rfl ?_
          refine JL_bnd fun r63 hr64 => ?_
          refine JL_ctx (fun w hh => hh.tokf 3 rfl rfl) ?_
          refine JL_ctx (fun w hh => hh.freeze 1 rfl) ?_
          refine JL_call wn rfl Try.call67 rfl (Ca_of (fun _ => rfl) fun w hh => c_impl_enclosed _ w hh.av' _ _ (hh.rd 4 rfl) _ _ (hh.rd 1 rfl) _ hr64) (fun x65 => ?_)
          refine JL_bnd fun z66 hz67 => ?_
          refine JL_st wn rfl (st_append 9 Try.underlying24 ti_54 zi_54 rfl bi_54 rfl rfl rfl rfl (fun w hh => hh.src_ow 0 rfl) hz67) (fun v68 => ?_)
          refine JA rfl rfl ?_
          refine JL_nil ?_
          refine N_block ?_
          refine N_block ?_
          refine N_then ?_
          refine J_region ?_
          refine JL_q wn rfl (ex_add rfl rfl) ?_
          refine JM rfl rfl ?_
          refine JL_nil ?_
          exact N_next' v68 ⟨rfl, rfl, rfl, rfl, trivial⟩ [9, 13] rfl rfl
       ·refine J_sr ?_
        refine JA rfl rfl ?_
        refine JA rfl rfl ?_
        refine JL_nt ?_
        refine J_ret ?_
        refine N_block_ret ?_
        refine N_block_ret ?_
        refine N_then_ret ?_
        refine N_round_ret ?_
        refine N_then_ret ?_
        refine N_ctx (fun w hh => SH.od_nil (α := GCommand) 54 hh) ?_
        refine N_ctx (fun w hh => hh.od_ow 0 rfl) ?_
        exact N_ret2 rfl (rv_tmp rfl) (rv_tmp rfl) (fun w hh => ⟨(.slice none 0 0 : Value), rfl, hh.sel [0] rfl⟩)
      ·refine JL_passed rfl rfl rfl h45 ?_
       refine JL_passed rfl rfl rfl h45 ?_
       refine JL_q wn rfl (ex_pick_false rfl h45 rfl) ?_
       refine JA rfl rfl ?_
       refine JL_nt ?_
       refine J_if_false rfl rfl ?_
       refine J_sr ?_
       refine JA rfl rfl ?_
       refine JA rfl rfl ?_
       refine JL_nt ?_
       refine J_ret ?_
       refine N_block_ret ?_
       refine N_block_ret ?_
       refine N_then_ret ?_
       refine N_round_ret ?_
       refine N_then_ret ?_
       refine N_ctx (fun w hh => SH.od_nil (α := GCommand) 54 hh) ?_
       refine N_ctx (fun w hh => hh.od_ow 0 rfl) ?_
       exact N_ret2 rfl (rv_tmp rfl) (rv_tmp rfl) (fun w hh => ⟨(.slice none 0 0 : Value), rfl, hh.sel [0] rfl⟩)
     ·refine JL_passed rfl rfl rfl h39 ?_
      refine JL_passed rfl rfl rfl h39 ?_
      refine JL_passed rfl rfl rfl h39 ?_
      refine JL_q wn rfl (ex_pick_false rfl h39 rfl) ?_
      refine JM rfl rfl ?_
      refine JL_passed rfl rfl rfl rfl ?_
      refine JL_passed rfl rfl rfl rfl ?_
      refine JL_q wn rfl (ex_pick_false rfl rfl rfl) ?_
      refine JA rfl rfl ?_
      refine JL_nt ?_
      refine J_if_false rfl rfl ?_
      refine J_sr ?_
      refine JA rfl rfl ?_
      refine JA rfl rfl ?_
      refine JL_nt ?_
      refine J_ret ?_
      refine N_block_ret ?_
      refine N_block_ret ?_
      refine N_then_ret ?_
      refine N_round_ret ?_
      refine N_then_ret ?_
      refine N_ctx (fun w hh => SH.od_nil (α := GCommand) 54 hh) ?_
      refine N_ctx (fun w hh => hh.od_ow 0 rfl) ?_
      exact N_ret2 rfl (rv_tmp rfl) (rv_tmp rfl) (fun w hh => ⟨(.slice none 0 0 : Value), rfl, hh.sel [0] rfl⟩)
  ·refine J_exit ?_
   refine N_then_exit ?_
   exact N_break' g6 ⟨rfl, rfl, rfl, rfl, trivial⟩ [0, 1] rfl rfl
 ·refine N_then ?_
  refine J_sr ?_
  refine JM rfl rfl ?_
  refine JA rfl rfl ?_
  refine JA rfl rfl ?_
  refine JL_nt ?_
  refine J_ret ?_
  exact N_ret2 rfl (rv_tmp rfl) (rv_tmp rfl) (fun w hh => ⟨g6, rfl, hh.sel [0] rfl⟩)
theorem c_impl_decodedWhile (A : Nat → Prop) (w : World) (hA : ∀ k, A k → k < w.heap.size) (v0_ : Value) (p0 : Tre) (hp0 : Rd A w v0_ p0) (r : (List GCommand) × Bool) (hr : F_impl_decodedWhile p0 = some r) :
  Con Try.prog 43 [v0_] A w (fun x_ : Value => .tuple #[x_, .bool r.2]) (fun x_ => [.ow 54 x_ r.1]) := by
 obtain ⟨k_, hk_⟩ := fixR_some hr
 exact c_impl_decodedWhile_ind k_ A w hA v0_ p0 hp0 r hk_
set_option maxHeartbeats 40000000 in
theorem c_impl_programOfTree (A : Nat → Prop) (w : World) (hA : ∀ k, A k → k < w.heap.size) (v0_ : Value) (p0 : Tre) (hp0 : Rd A w v0_ p0) (r : (List GCommand) × Int) (hr : F_impl_programOfTree p0 = some r) :
  Con Try.prog 19 [v0_] A w (fun x_ : Value => .tuple #[x_, .int .i64 r.2]) (fun x_ => [.ow 54 x_ r.1]) := by
 refine Con_of (v := fun (r : (List GCommand) × Int) (x_ : Value) => .tuple #[x_, .int .i64 r.2]) (fs := fun r x_ => [.ow 54 x_ r.1]) Try.func19 rfl Try.ntmps19 rfl ((SH.start hA).start_rd rfl hp0) rfl ?_ hr
 unfold F_impl_programOfTree
 refine J_sr ?_
 refine JA rfl rfl ?_
 refine JA rfl rfl ?_
 refine JL_nt ?_
 refine J_sr ?_
 refine JM rfl rfl ?_
 refine JL_bnd fun r1 hr2 => ?_
 refine JL_call wn rfl Try.call43 rfl (Ca_of (fun _ => rfl) fun w hh => c_impl_decodedWhile _ w hh.av' _ _ (hh.rd 0 rfl) _ hr2) (fun x3 => ?_)
 refine JM rfl rfl ?_
 refine JL_q wn rfl (ex_extract rfl rfl) ?_
 refine JL_q wn rfl (ex_extract rfl rfl) ?_
 refine JA rfl rfl ?_
 refine JA rfl rfl ?_
 refine JL_nt ?_
 refine J_seq ?_
 refine J_block ?_
 refine J_sr ?_
 refine JM rfl rfl ?_
 refine JL_q wn rfl (ex_not rfl) ?_
 refine JA rfl rfl ?_
 refine JL_nt ?_
 refine J_if rfl (fun h4 => ?_) (fun h4 => ?_)
 ·refine J_sr ?_
  refine JA rfl rfl ?_
  refine JA rfl rfl ?_
  refine JL_nt ?_
  refine J_ret ?_
  refine N_block_ret ?_
  refine N_then_ret ?_
  refine N_ctx (fun w hh => SH.od_nil (α := GCommand) 54 hh) ?_
  refine N_ctx (fun w hh => hh.od_ow 0 rfl) ?_
  exact N_ret2 rfl (rv_tmp rfl) (rv_tmp rfl) (fun w hh => ⟨(.slice none 0 0 : Value), rfl, hh.sel [0] rfl⟩)
 ·refine J_sr ?_
  refine JM rfl rfl ?_
  refine JL_bnd fun r5 hr6 => ?_
  refine JL_call wn rfl Try.call34 rfl (Ca_of0 fun w hh => c_impl_ValidWhile _ w (fun _ hk => hk.elim) _ _ (hh.ow0 0 rfl) _ hr6) (fun _ => ?_)
  refine JL_q wn rfl (ex_not rfl) ?_
  refine JA rfl rfl ?_
  refine JL_nt ?_
  refine J_if rfl (fun h7 => ?_) (fun h7 => ?_)
  ·refine J_sr ?_
   refine JA rfl rfl ?_
   refine JA rfl rfl ?_
   refine JL_nt ?_
   refine J_ret ?_
   refine N_block_ret ?_
   refine N_then_ret ?_
   refine N_ctx (fun w hh => SH.od_nil (α := GCommand) 54 hh) ?_
   refine N_ctx (fun w hh => hh.od_ow 0 rfl) ?_
   exact N_ret2 rfl (rv_tmp rfl) (rv_tmp rfl) (fun w hh => ⟨(.slice none 0 0 : Value), rfl, hh.sel [0] rfl⟩)
  ·refine J_skip ?_
   refine N_block ?_
   refine N_then ?_
   refine J_sr ?_
   refine JM rfl rfl ?_
   refine JA rfl rfl ?_
   refine JA rfl rfl ?_
   refine JL_nt ?_
   refine J_ret ?_
   exact N_ret2 rfl (rv_tmp rfl) (rv_tmp rfl) (fun w hh => ⟨x3, rfl, hh.sel [0] rfl⟩)
set_option maxHeartbeats 40000000 in
theorem c_impl_DecodeWhile (A : Nat → Prop) (w : World) (hA : ∀ k, A k → k < w.heap.size) (v0_ : Value) (p0 : (List Bool)) (hp0 : Rd A w v0_ p0) (r : (List GCommand) × Int) (hr : F_impl_DecodeWhile p0 = some r) :
  Con Try.prog 7 [v0_] A w (fun x_ : Value => .tuple #[x_, .int .i64 r.2]) (fun x_ => [.ow 54 x_ r.1]) := by
 refine Con_of (v := fun (r : (List GCommand) × Int) (x_ : Value) => .tuple #[x_, .int .i64 r.2]) (fs := fun r x_ => [.ow 54 x_ r.1]) Try.func7 rfl Try.ntmps7 rfl ((SH.start hA).start_rd rfl hp0) rfl ?_ hr
 unfold F_impl_DecodeWhile
 refine J_sr ?_
 refine JA rfl rfl ?_
 refine JA rfl rfl ?_
 refine JL_nt ?_
 refine J_seq ?_
 refine J_sr ?_
 refine JM rfl rfl ?_
 refine JL_bnd fun r1 hr2 => ?_
 refine JL_call wn rfl Try.call18 rfl (Ca_of0 fun w hh => c_impl_IsTree _ w (fun _ hk => hk.elim) _ _ (hh.rd0 0 rfl) _ hr2) (fun _ => ?_)
 refine JL_q wn rfl (ex_not rfl) ?_
 refine JL_nt ?_
 refine J_if rfl (fun h3 => ?_) (fun h3 => ?_)
 ·refine J_sr ?_
  refine JA rfl rfl ?_
  refine JA rfl rfl ?_
  refine JL_nt ?_
  refine J_ret ?_
  refine N_then_ret ?_
  refine N_ctx (fun w hh => SH.od_nil (α := GCommand) 54 hh) ?_
  refine N_ctx (fun w hh => hh.od_ow 0 rfl) ?_
  exact N_ret2 rfl (rv_tmp rfl) (rv_tmp rfl) (fun w hh => ⟨(.slice none 0 0 : Value), rfl, hh.sel [0] rfl⟩)
 ·refine J_skip ?_
  refine N_then ?_
  refine J_sr ?_
  refine JM rfl rfl ?_
  refine JL_bnd fun r4 hr5 => ?_
  refine JL_call wn rfl Try.call20 rfl (Ca_of (fun _ => rfl) fun w hh => c_impl_treeOf _ w hh.av' _ _ (hh.rd 0 rfl) _ hr5) (fun x6 => ?_)
  refine JL_bnd fun r7 hr8 => ?_
  refine JL_call wn rfl Try.call19 rfl (Ca_of (fun _ => rfl) fun w hh => c_impl_programOfTree _ w hh.av' _ _ (hh.rd 0 rfl) _ hr8) (fun x9 => ?_)
  refine JL_q wn rfl (ex_extract rfl rfl) ?_
  refine JL_q wn rfl (ex_extract rfl rfl) ?_
  refine JA rfl rfl ?_
  refine JA rfl rfl ?_
  refine JL_nt ?_
  refine J_ret ?_
  exact N_ret2 rfl (rv_tmp rfl) (rv_tmp rfl) (fun w hh => ⟨x9, rfl, hh.sel [0] rfl⟩)
set_option maxHeartbeats 40000000 in
theorem c_impl_universalInput (A : Nat → Prop) (w : World) (hA : ∀ k, A k → k < w.heap.size) (v0_ : Value) (p0 : (List GCommand)) (hp0 : Rd A w v0_ p0) (v1_ : Value) (p1 : (List Bool)) (hp1 : Rd A w v1_ p1) (r : Tre × Int) (hr : F_impl_universalInput p0 p1 = some r) :
  Con Try.prog 21 [v0_, v1_] A w (fun x_ : Value => .tuple #[x_, .int .i64 r.2]) (fun x_ => [.rd x_ r.1]) := by
 refine Con_of (v := fun (r : Tre × Int) (x_ : Value) => .tuple #[x_, .int .i64 r.2]) (fs := fun r x_ => [.rd x_ r.1]) Try.func21 rfl Try.ntmps21 rfl (((SH.start hA).start_rd rfl hp0).start_rd rfl hp1) rfl ?_ hr
 unfold F_impl_universalInput
 refine J_sr ?_
 refine JL_ctx (fun w hh => hh.tr_nil) ?_
 refine JA rfl rfl ?_
 refine JA rfl rfl ?_
 refine JL_nt ?_
 refine J_seq ?_
 refine J_cut' (S' := Unit) (G' := Unit) (fun _ _ => [(0, v0_), (1, v1_)]) (fun _ _ => [.rd v0_ p0, .rd v1_ p1]) ?_ (fun s1 g2 => ?_)
 ·refine J_sr ?_
  refine JM rfl rfl ?_
  refine JL_bnd fun r3 hr4 => ?_
  refine JL_call wn rfl Try.call34 rfl (Ca_of0 fun w hh => c_impl_ValidWhile _ w (fun _ hk => hk.elim) _ _ (hh.rd0 2 rfl) _ hr4) (fun _ => ?_)
  refine JL_q wn rfl (ex_not rfl) ?_
  refine JM rfl rfl ?_
  refine JL_cond (fun h5 => ?_) (fun h5 => ?_)
  ·refine JL_passed rfl rfl rfl h5 ?_
   refine JL_passed rfl rfl rfl h5 ?_
   refine JL_passed rfl rfl rfl h5 ?_
   refine JL_q wn rfl (ex_pick_true rfl h5 rfl) ?_
   refine JL_nt ?_
   refine J_if_true rfl rfl ?_
   refine J_sr ?_
   refine JL_ctx (fun w hh => hh.tr_nil) ?_
   refine JA rfl rfl ?_
   refine JA rfl rfl ?_
   refine JL_nt ?_
   refine J_ret ?_
   refine N_mid_ret ?_
   refine N_then_ret ?_
   exact N_ret2 rfl (rv_tmp rfl) (rv_tmp rfl) (fun w hh => ⟨(.pointer none), rfl, hh.sel [0] rfl⟩)
  ·refine JL_q (wants_some rfl rfl rfl h5) rfl (ex_move rfl) ?_
   refine JL_bnd fun r6 hr7 => ?_
   refine JL_call (wants_some rfl rfl rfl h5) rfl Try.call18 rfl (Ca_of0 fun w hh => c_impl_IsTree _ w (fun _ hk => hk.elim) _ _ (hh.rd0 1 rfl) _ hr7) (fun _ => ?_)
   refine JL_q (wants_some rfl rfl rfl h5) rfl (ex_not rfl) ?_
   refine JL_q wn rfl (ex_pick_false rfl h5 rfl) ?_
   refine JL_nt ?_
   refine J_if rfl (fun h8 => ?_) (fun h8 => ?_)
   ·refine J_sr ?_
    refine JL_ctx (fun w hh => hh.tr_nil) ?_
    refine JA rfl rfl ?_
    refine JA rfl rfl ?_
    refine JL_nt ?_
    refine J_ret ?_
    refine N_mid_ret ?_
    refine N_then_ret ?_
    exact N_ret2 rfl (rv_tmp rfl) (rv_tmp rfl) (fun w hh => ⟨(.pointer none), rfl, hh.sel [0] rfl⟩)
   ·refine J_skip ?_
    exact N_meet' () ⟨rfl, rfl, trivial⟩ [2, 1] rfl rfl
 ·refine N_then ?_
  refine J_sr ?_
  refine JM rfl rfl ?_
  refine JL_bnd fun r9 hr10 => ?_
  refine JL_call wn rfl Try.call16 rfl (Ca_of (fun _ => rfl) fun w hh => c_impl_codedWhile _ w hh.av' _ _ (hh.rd 0 rfl) _ hr10) (fun x11 => ?_)
  refine JM rfl rfl ?_
  refine JL_q wn rfl (ex_extract rfl rfl) ?_
  refine JL_q wn rfl (ex_extract rfl rfl) ?_
  refine JA rfl rfl ?_
  refine JA rfl rfl ?_
  refine JL_nt ?_
  refine J_seq ?_
  refine J_sr ?_
  refine JM rfl rfl ?_
  refine JL_q wn rfl (ex_neq rfl rfl) ?_
  refine JL_nt ?_
  refine J_if rfl (fun h12 => ?_) (fun h12 => ?_)
  ·refine J_sr ?_
   refine JM rfl rfl ?_
   refine JL_ctx (fun w hh => hh.tr_nil) ?_
   refine JA rfl rfl ?_
   refine JA rfl rfl ?_
   refine JL_nt ?_
   refine J_ret ?_
   refine N_then_ret ?_
   exact N_ret2 rfl (rv_tmp rfl) (rv_tmp rfl) (fun w hh => ⟨(.pointer none), rfl, hh.sel [0] rfl⟩)
  ·refine J_skip ?_
   refine N_then ?_
   refine J_sr ?_
   refine JM rfl rfl ?_
   refine JM rfl rfl ?_
   refine JL_bnd fun r13 hr14 => ?_
   refine JL_call wn rfl Try.call20 rfl (Ca_of (fun _ => rfl) fun w hh => c_impl_treeOf _ w hh.av' _ _ (hh.rd 2 rfl) _ hr14) (fun x15 => ?_)
   refine JL_bnd fun r16 hr17 => ?_
   refine JL_call wn rfl Try.call45 rfl (Ca_self (fun _ => rfl) fun w hh => c_impl_pair _ w (fun _ hk => hk.elim) _ _ (hh.rd0 1 rfl) _ _ (hh.rd0 0 rfl) _ hr17) (fun x18 => ?_)
   refine JL_ctx (fun w hh => hh.tr_mk 0 rfl (hh.rd 2 rfl) (hh.rd 1 rfl)) ?_
   refine JA rfl rfl ?_
   refine JL_nt ?_
   refine J_seq ?_
   refine J_sr ?_
   refine JM rfl rfl ?_
   refine JL_bnd fun y19 hy20 => ?_
   refine JL_q wn rfl (ex_nilCheck_tr 0 rfl rfl hy20) ?_
   refine JL_st wn rfl (st_field_tr 0 (Gtree.at_nodes _) fi_77_2 rfl rfl rfl hy20) (fun q21 => ?_)
   refine JL_st wn rfl (st_load_pt_o 0 (opens_int _) ti_2 rfl rfl) (fun _ => ?_)
   refine JL_q wn rfl (ex_gtr rfl rfl) ?_
   refine JL_nt ?_
   refine J_if rfl (fun h23 => ?_) (fun h23 => ?_)
   ·refine J_sr ?_
    refine JL_ctx (fun w hh => hh.tr_nil) ?_
    refine JA rfl rfl ?_
    refine JA rfl rfl ?_
    refine JL_nt ?_
    refine J_ret ?_
    refine N_then_ret ?_
    exact N_ret2 rfl (rv_tmp rfl) (rv_tmp rfl) (fun w hh => ⟨(.pointer none), rfl, hh.sel [0] rfl⟩)
   ·refine J_skip ?_
    refine N_then ?_
    refine J_sr ?_
    refine JM rfl rfl ?_
    refine JA rfl rfl ?_
    refine JA rfl rfl ?_
    refine JL_nt ?_
    refine J_ret ?_
    exact N_ret2 rfl (rv_tmp rfl) (rv_tmp rfl) (fun w hh => ⟨(.pointer (some ⟨x18, 0, none⟩)), rfl, hh.sel [1] rfl⟩)
set_option maxHeartbeats 40000000 in
theorem c_impl_UniversalInput (A : Nat → Prop) (w : World) (hA : ∀ k, A k → k < w.heap.size) (v0_ : Value) (p0 : (List GCommand)) (hp0 : Rd A w v0_ p0) (v1_ : Value) (p1 : (List Bool)) (hp1 : Rd A w v1_ p1) (r : (List Bool) × Int) (hr : F_impl_UniversalInput p0 p1 = some r) :
  Con Try.prog 8 [v0_, v1_] A w (fun x_ : Value => .tuple #[x_, .int .i64 r.2]) (fun x_ => [.ow 4 x_ r.1]) := by
 refine Con_of (v := fun (r : (List Bool) × Int) (x_ : Value) => .tuple #[x_, .int .i64 r.2]) (fs := fun r x_ => [.ow 4 x_ r.1]) Try.func8 rfl Try.ntmps8 rfl (((SH.start hA).start_rd rfl hp0).start_rd rfl hp1) rfl ?_ hr
 unfold F_impl_UniversalInput
 refine J_sr ?_
 refine JA rfl rfl ?_
 refine JA rfl rfl ?_
 refine JL_nt ?_
 refine J_sr ?_
 refine JM rfl rfl ?_
 refine JM rfl rfl ?_
 refine JL_bnd fun r1 hr2 => ?_
 refine JL_call wn rfl Try.call21 rfl (Ca_of (fun _ => rfl) fun w hh => c_impl_universalInput _ w hh.av' _ _ (hh.rd 1 rfl) _ _ (hh.rd 0 rfl) _ hr2) (fun x3 => ?_)
 refine JM rfl rfl ?_
 refine JL_q wn rfl (ex_extract rfl rfl) ?_
 refine JL_q wn rfl (ex_extract rfl rfl) ?_
 refine JA rfl rfl ?_
 refine JA rfl rfl ?_
 refine JL_nt ?_
 refine J_seq ?_
 refine J_sr ?_
 refine JM rfl rfl ?_
 refine JL_q wn rfl (ex_neq rfl rfl) ?_
 refine JL_nt ?_
 refine J_if rfl (fun h4 => ?_) (fun h4 => ?_)
 ·refine J_sr ?_
  refine JM rfl rfl ?_
  refine JA rfl rfl ?_
  refine JA rfl rfl ?_
  refine JL_nt ?_
  refine J_ret ?_
  refine N_then_ret ?_
  refine N_ctx (fun w hh => SH.ow_nil (α := Bool) 4 hh) ?_
  exact N_ret2 rfl (rv_tmp rfl) (rv_tmp rfl) (fun w hh => ⟨(.slice none 0 0 : Value), rfl, hh.sel [0] rfl⟩)
 ·refine J_skip ?_
  refine N_then ?_
  refine J_sr ?_
  refine JM rfl rfl ?_
  refine JL_bnd fun r5 hr6 => ?_
  refine JL_call wn rfl Try.call17 rfl (Ca_self (fun _ => rfl) fun w hh => c_impl_tree_list _ w (fun _ hk => hk.elim) _ _ (hh.rd0 0 rfl) _ hr6) (fun x7 => ?_)
  refine JA rfl rfl ?_
  refine JA rfl rfl ?_
  refine JL_nt ?_
  refine J_ret ?_
  exact N_ret2 rfl (rv_tmp rfl) (rv_tmp rfl) (fun w hh => ⟨x7, rfl, hh.sel [0] rfl⟩)
set_option maxHeartbeats 40000000 in
theorem c_impl_tree_checked (A : Nat → Prop) (w : World) (hA : ∀ k, A k → k < w.heap.size) (v0_ : Value) (p0 : Tre) (hp0 : Rd A w v0_ p0) (r : (List Bool) × Int) (hr : F_impl_tree_checked p0 = some r) :
  Con Try.prog 46 [v0_] A w (fun x_ : Value => .tuple #[x_, .int .i64 r.2]) (fun x_ => [.ow 4 x_ r.1]) := by
 refine Con_of (v := fun (r : (List Bool) × Int) (x_ : Value) => .tuple #[x_, .int .i64 r.2]) (fs := fun r x_ => [.ow 4 x_ r.1]) Try.func46 rfl Try.ntmps46 rfl ((SH.start hA).start_rd rfl hp0) rfl ?_ hr
 unfold F_impl_tree_checked
 refine J_sr ?_
 refine JA rfl rfl ?_
 refine JA rfl rfl ?_
 refine JL_nt ?_
 refine J_seq ?_
 refine J_sr ?_
 refine JM rfl rfl ?_
 refine JL_bnd fun r1 hr2 => ?_
 refine JL_call wn rfl Try.call37 rfl (Ca_of0 fun w hh => c_impl_tree_nodesOf _ w (fun _ hk => hk.elim) _ _ (hh.rd0 0 rfl) _ hr2) (fun _ => ?_)
 refine JL_q wn rfl (ex_gtr rfl rfl) ?_
 refine JL_nt ?_
 refine J_if rfl (fun h3 => ?_) (fun h3 => ?_)
 ·refine J_sr ?_
  refine JA rfl rfl ?_
  refine JA rfl rfl ?_
  refine JL_nt ?_
  refine J_ret ?_
  refine N_then_ret ?_
  refine N_ctx (fun w hh => SH.ow_nil (α := Bool) 4 hh) ?_
  exact N_ret2 rfl (rv_tmp rfl) (rv_tmp rfl) (fun w hh => ⟨(.slice none 0 0 : Value), rfl, hh.sel [0] rfl⟩)
 ·refine J_skip ?_
  refine N_then ?_
  refine J_sr ?_
  refine JM rfl rfl ?_
  refine JL_bnd fun r4 hr5 => ?_
  refine JL_call wn rfl Try.call17 rfl (Ca_self (fun _ => rfl) fun w hh => c_impl_tree_list _ w (fun _ hk => hk.elim) _ _ (hh.rd0 0 rfl) _ hr5) (fun x6 => ?_)
  refine JA rfl rfl ?_
  refine JA rfl rfl ?_
  refine JL_nt ?_
  refine J_ret ?_
  exact N_ret2 rfl (rv_tmp rfl) (rv_tmp rfl) (fun w hh => ⟨x6, rfl, hh.sel [0] rfl⟩)
set_option maxHeartbeats 40000000 in
theorem c_impl_HeadOf (A : Nat → Prop) (w : World) (hA : ∀ k, A k → k < w.heap.size) (v0_ : Value) (p0 : (List Bool)) (hp0 : Rd A w v0_ p0) (r : (List Bool) × Int) (hr : F_impl_HeadOf p0 = some r) :
  Con Try.prog 9 [v0_] A w (fun x_ : Value => .tuple #[x_, .int .i64 r.2]) (fun x_ => [.ow 4 x_ r.1]) := by
 refine Con_of (v := fun (r : (List Bool) × Int) (x_ : Value) => .tuple #[x_, .int .i64 r.2]) (fs := fun r x_ => [.ow 4 x_ r.1]) Try.func9 rfl Try.ntmps9 rfl ((SH.start hA).start_rd rfl hp0) rfl ?_ hr
 unfold F_impl_HeadOf
 refine J_sr ?_
 refine JA rfl rfl ?_
 refine JA rfl rfl ?_
 refine JL_nt ?_
 refine J_sr ?_
 refine JM rfl rfl ?_
 refine JL_inline wn rfl Try.call22 rfl Try.func22 rfl Try.ntmps22 rfl rfl (fun K_ hK1 => ?_)
 refine J_sr ?_
 refine JA rfl rfl ?_
 refine JA rfl rfl ?_
 refine JL_nt ?_
 refine J_seq ?_
 refine J_sr ?_
 refine JM rfl rfl ?_
 refine JL_bnd fun r2 hr3 => ?_
 refine JL_call wn rfl Try.call18 rfl (Ca_of0 fun w hh => c_impl_IsTree _ w (fun _ hk => hk.elim) _ _ (hh.rd0 0 rfl) _ hr3) (fun _ => ?_)
 refine JL_q wn rfl (ex_not rfl) ?_
 refine JL_nt ?_
 refine J_if rfl (fun h4 => ?_) (fun h4 => ?_)
 ·refine J_sr ?_
  refine JA rfl rfl ?_
  refine JA rfl rfl ?_
  refine JL_nt ?_
  refine J_ret ?_
  refine N_then_ret ?_
  refine N_inl2 hK1 rfl (rv_tmp rfl) (rv_tmp rfl) ?_
  refine JL_q wn rfl (ex_extract rfl rfl) ?_
  refine JL_q wn rfl (ex_extract rfl rfl) ?_
  refine JA rfl rfl ?_
  refine JA rfl rfl ?_
  refine JL_nt ?_
  refine J_ret ?_
  refine N_ctx (fun w hh => SH.ow_nil (α := Bool) 4 hh) ?_
  exact N_ret2 rfl (rv_tmp rfl) (rv_tmp rfl) (fun w hh => ⟨(.slice none 0 0 : Value), rfl, hh.sel [0] rfl⟩)
 ·refine J_skip ?_
  refine N_then ?_
  refine J_sr ?_
  refine JM rfl rfl ?_
  refine JM rfl rfl ?_
  refine JL_bnd fun r5 hr6 => ?_
  refine JL_call wn rfl Try.call20 rfl (Ca_of (fun _ => rfl) fun w hh => c_impl_treeOf _ w hh.av' _ _ (hh.rd 0 rfl) _ hr6) (fun x7 => ?_)
  refine JL_inlinev (args := [_]) (caps := []) wn rfl Try.call23 rfl rfl Try.func23 rfl Try.ntmps23 rfl rfl (fun K_ hK8 => ?_)
  refine J_sr ?_
  refine JL_ctx (fun w hh => hh.tr_nil) ?_
  refine JA rfl rfl ?_
  refine JL_nt ?_
  refine J_seq ?_
  refine J_sr ?_
  refine JM rfl rfl ?_
  refine JL_q wn rfl (ex_eq_tr 1 Try.underlying41 rfl rfl rfl) ?_
  refine JL_nt ?_
  refine J_if rfl (fun h9 => ?_) (fun h9 => ?_)
  ·refine J_sr ?_
   refine JL_ctx (fun w hh => hh.tr_nil) ?_
   refine JA rfl rfl ?_
   refine JL_nt ?_
   refine J_ret ?_
   refine N_then_ret ?_
   refine N_inl1 hK8 rfl (rv_tmp rfl) ?_
   refine JL_bnd fun r10 hr11 => ?_
   refine JL_call wn rfl Try.call46 rfl (Ca_self (fun _ => rfl) fun w hh => c_impl_tree_checked _ w (fun _ hk => hk.elim) _ _ (hh.rd0 0 rfl) _ hr11) (fun x12 => ?_)
   refine JL_q wn rfl (ex_extract rfl rfl) ?_
   refine JL_q wn rfl (ex_extract rfl rfl) ?_
   refine JA rfl rfl ?_
   refine JA rfl rfl ?_
   refine JL_nt ?_
   refine J_ret ?_
   refine N_inl2 hK1 rfl (rv_tmp rfl) (rv_tmp rfl) ?_
   refine JL_q wn rfl (ex_extract rfl rfl) ?_
   refine JL_q wn rfl (ex_extract rfl rfl) ?_
   refine JA rfl rfl ?_
   refine JA rfl rfl ?_
   refine JL_nt ?_
   refine J_ret ?_
   exact N_ret2 rfl (rv_tmp rfl) (rv_tmp rfl) (fun w hh => ⟨x12, rfl, hh.sel [0] rfl⟩)
  ·refine J_skip ?_
   refine N_then ?_
   refine J_sr ?_
   refine JM rfl rfl ?_
   refine JL_bnd fun y13 hy14 => ?_
   refine JL_q wn rfl (ex_nilCheck_tr 1 rfl rfl hy14) ?_
   refine JL_st wn rfl (st_field_tr 1 (Gtree.at_head _) fi_77_0 rfl rfl rfl hy14) (fun q15 => ?_)
   refine JL_st wn rfl (st_load_pt_o 0 (opens_tr _) ti_41 rfl rfl) (fun v16 => ?_)
   refine JA rfl rfl ?_
   refine JL_nt ?_
   refine J_ret ?_
   refine N_inl1 hK8 rfl (rv_tmp rfl) ?_
   refine JL_bnd fun r17 hr18 => ?_
   refine JL_call wn rfl Try.call46 rfl (Ca_self (fun _ => rfl) fun w hh => c_impl_tree_checked _ w (fun _ hk => hk.elim) _ _ (hh.rd0 0 rfl) _ hr18) (fun x19 => ?_)
   refine JL_q wn rfl (ex_extract rfl rfl) ?_
   refine JL_q wn rfl (ex_extract rfl rfl) ?_
   refine JA rfl rfl ?_
   refine JA rfl rfl ?_
   refine JL_nt ?_
   refine J_ret ?_
   refine N_inl2 hK1 rfl (rv_tmp rfl) (rv_tmp rfl) ?_
   refine JL_q wn rfl (ex_extract rfl rfl) ?_
   refine JL_q wn rfl (ex_extract rfl rfl) ?_
   refine JA rfl rfl ?_
   refine JA rfl rfl ?_
   refine JL_nt ?_
   refine J_ret ?_
   exact N_ret2 rfl (rv_tmp rfl) (rv_tmp rfl) (fun w hh => ⟨x19, rfl, hh.sel [0] rfl⟩)
set_option maxHeartbeats 40000000 in
theorem c_impl_IsProgramTree (A : Nat → Prop) (w : World) (hA : ∀ k, A k → k < w.heap.size) (v0_ : Value) (p0 : (List Bool)) (hp0 : Rd A w v0_ p0) (r : Bool) (hr : F_impl_IsProgramTree p0 = some r) :
  Con Try.prog 10 [v0_] A w (fun x_ : Unit => .bool r) (fun x_ => []) := by
 refine Con_of (v := fun (r : Bool) (x_ : Unit) => .bool r) (fs := fun r x_ => []) Try.func10 rfl Try.ntmps10 rfl ((SH.start hA).start_rd rfl hp0) rfl ?_ hr
 unfold F_impl_IsProgramTree
 refine J_sr ?_
 refine JA rfl rfl ?_
 refine JL_nt ?_
 refine J_sr ?_
 refine JM rfl rfl ?_
 refine JL_bnd fun r1 hr2 => ?_
 refine JL_call wn rfl Try.call7 rfl (Ca_of (fun _ => rfl) fun w hh => c_impl_DecodeWhile _ w hh.av' _ _ (hh.rd 0 rfl) _ hr2) (fun x3 => ?_)
 refine JM rfl rfl ?_
 refine JL_q wn rfl (ex_extract rfl rfl) ?_
 refine JL_q wn rfl (ex_extract rfl rfl) ?_
 refine JA rfl rfl ?_
 refine JA rfl rfl ?_
 refine JL_nt ?_
 refine J_sr ?_
 refine JM rfl rfl ?_
 refine JL_q wn rfl (ex_eql rfl rfl) ?_
 refine JA rfl rfl ?_
 refine JL_nt ?_
 refine J_ret ?_
 exact N_ret1 rfl (rv_tmp rfl) (fun w hh => ⟨(), rfl, hh.sel [] rfl⟩)
set_option maxHeartbeats 40000000 in
theorem c_slices_Equal_Simpl_Expr_impl_Expr (A : Nat → Prop) (w : World) (hA : ∀ k, A k → k < w.heap.size) (v0_ : Value) (p0 : (List GExpr)) (hp0 : Rd A w v0_ p0) (v1_ : Value) (p1 : (List GExpr)) (hp1 : Rd A w v1_ p1) (r : Bool) (hr : F_slices_Equal_Simpl_Expr_impl_Expr p0 p1 = some r) :
  Con Try.prog 47 [v0_, v1_] A w (fun x_ : Unit => .bool r) (fun x_ => []) := by
 refine Con_of (v := fun (r : Bool) (x_ : Unit) => .bool r) (fs := fun r x_ => []) Try.func47 rfl Try.ntmps47 rfl (((SH.start hA).start_rd rfl hp0).start_rd rfl hp1) rfl ?_ hr
 unfold F_slices_Equal_Simpl_Expr_impl_Expr
 refine J_sr ?_
 refine JA rfl rfl ?_
 refine JL_nt ?_
 refine J_seq ?_
 refine J_sr ?_
 refine JM rfl rfl ?_
 refine JL_q wn rfl (ex_len_rd 1 Try.underlying52 rfl rfl) ?_
 refine JM rfl rfl ?_
 refine JL_q wn rfl (ex_len_rd 0 Try.underlying52 rfl rfl) ?_
 refine JL_q wn rfl (ex_neq rfl rfl) ?_
 refine JL_nt ?_
 refine J_if rfl (fun h1 => ?_) (fun h1 => ?_)
 ·refine J_sr ?_
  refine JA rfl rfl ?_
  refine JL_nt ?_
  refine J_ret ?_
  refine N_then_ret ?_
  exact N_ret1 rfl (rv_tmp rfl) (fun w hh => ⟨(), rfl, hh.sel [] rfl⟩)
 ·refine J_skip ?_
  refine N_then ?_
  refine J_seq ?_
  refine J_sr ?_
  refine JM rfl rfl ?_
  refine JL_q wn rfl (ex_len_rd 1 Try.underlying52 rfl rfl) ?_
  refine JM rfl rfl ?_
  refine JL_nt ?_
  refine J_loop' (S := Int) (G := Unit) (F_slices_Equal_Simpl_Expr_impl_Expr_L1 p0 p1) (fun s2 _ => [(0, v0_), (1, v1_), (12, .int .i64 (p0.length : Int)), (13, .int .i64 s2)]) (fun s2 _ => [.rd v0_ p0, .rd v1_ p1]) 0 () ⟨rfl, rfl, rfl, rfl, trivial⟩ [1, 0] rfl rfl (fun s2 g3 => ?_) (fun s2 g3 => ?_)
  ·unfold F_slices_Equal_Simpl_Expr_impl_Expr_L1
   refine J_sr ?_
   refine JL_q wn rfl (ex_lss rfl rfl) ?_
   refine JL_nt ?_
   refine J_seq ?_
   refine J_if rfl (fun h4 => ?_) (fun h4 => ?_)
   ·refine J_skip ?_
    refine N_then ?_
    refine J_seq ?_
    refine J_block ?_
    refine J_sr ?_
    refine JM rfl rfl ?_
    refine JA rfl rfl ?_
    refine JL_nt ?_
    refine J_seq ?_
    refine J_draw [] (by kernel_rfl) ?_
    refine JP_take (i := 0) [0, 1] [] rfl (by kernel_rfl) (by kernel_rfl) (by kernel_rfl) rfl rfl wn rfl (ex_move rfl) ?_
    refine JP_take (i := 1) [0, 1] [] rfl (by kernel_rfl) (by kernel_rfl) (by kernel_rfl) rfl rfl wn rfl (ex_move rfl) ?_
    refine JP_bnd fun y5 hy6 => ?_
    refine JP_sq (i := 2) [] rfl (by kernel_rfl) (by kernel_rfl) (by kernel_rfl) rfl wn rfl (sq_index 0 Try.underlying52 ti_67 rfl rfl rfl hy6) (fun q7 => ?_)
    refine JP_sq (i := 3) [] rfl (by kernel_rfl) (by kernel_rfl) (by kernel_rfl) rfl wn rfl (sq_load_pt_o 0 (GExpr.opens _) ti_67 rfl rfl) (fun _ => ?_)
    refine JP_take (i := 4) [0, 1, 2] [] rfl (by kernel_rfl) (by kernel_rfl) (by kernel_rfl) rfl rfl wn rfl (ex_move rfl) ?_
    refine JP_take (i := 5) [0, 1, 2] [] rfl (by kernel_rfl) (by kernel_rfl) (by kernel_rfl) rfl rfl wn rfl (ex_move rfl) ?_
    refine JP_bnd fun y9 hy10 => ?_
    refine JP_sq (i := 6) [] rfl (by kernel_rfl) (by kernel_rfl) (by kernel_rfl) rfl wn rfl (sq_index 2 Try.underlying52 ti_67 rfl rfl rfl hy10) (fun q11 => ?_)
    refine JP_sq (i := 7) [] rfl (by kernel_rfl) (by kernel_rfl) (by kernel_rfl) rfl wn rfl (sq_load_pt_o 0 (GExpr.opens _) ti_67 rfl rfl) (fun _ => ?_)
    refine JP_take (i := 8) [0, 1, 2, 3] [] rfl (by kernel_rfl) (by kernel_rfl) (by kernel_rfl) rfl rfl wn rfl (ex_neq_seq_67 rfl rfl) ?_
    refine JP_go [] [] rfl rfl rfl (fun _ _ _ => ?_)
    refine JD_done (by kernel_rfl) ?_
    refine N_then ?_
    refine J_if rfl (fun h13 => ?_) (fun h13 => ?_)
    ·refine J_sr ?_
     refine JA rfl rfl ?_
     refine JL_nt ?_
     refine J_ret ?_
     refine N_block_ret ?_
     refine N_then_ret ?_
     refine N_round_ret ?_
     refine N_then_ret ?_
     exact N_ret1 rfl (rv_tmp rfl) (fun w hh => ⟨(), rfl, hh.sel [] rfl⟩)
    ·refine J_skip ?_
     refine N_block ?_
     refine N_then ?_
     refine J_region ?_
     refine JL_q wn rfl (ex_add rfl rfl) ?_
     refine JM rfl rfl ?_
     refine JL_nil ?_
     exact N_next' () ⟨rfl, rfl, rfl, rfl, trivial⟩ [2, 3] rfl rfl
   ·refine J_exit ?_
    refine N_then_exit ?_
    exact N_break' () ⟨rfl, rfl, rfl, rfl, trivial⟩ [0, 1] rfl rfl
  ·refine N_then ?_
   refine J_sr ?_
   refine JA rfl rfl ?_
   refine JL_nt ?_
   refine J_ret ?_
   exact N_ret1 rfl (rv_tmp rfl) (fun w hh => ⟨(), rfl, hh.sel [] rfl⟩)
set_option maxHeartbeats 40000000 in
theorem c_impl_sameCommand (A : Nat → Prop) (w : World) (hA : ∀ k, A k → k < w.heap.size) (v0_ : Value) (p0 : GCommand) (hp0 : Rd A w v0_ p0) (v1_ : Value) (p1 : GCommand) (hp1 : Rd A w v1_ p1) (r : Bool) (hr : F_impl_sameCommand p0 p1 = some r) :
  Con Try.prog 25 [v0_, v1_] A w (fun x_ : Unit => .bool r) (fun x_ => []) := by
 obtain ⟨v0_0, rfl, hp0_0⟩ := GCommand.open hp0
 obtain ⟨v1_0, rfl, hp1_0⟩ := GCommand.open hp1
 refine Con_of (v := fun (r : Bool) (x_ : Unit) => .bool r) (fs := fun r x_ => []) Try.func25 rfl Try.ntmps25 rfl (((SH.start hA).start_rd rfl hp0_0).start_rd rfl hp1_0) rfl ?_ hr
 unfold F_impl_sameCommand
 refine J_sr ?_
 refine JL_st wn rfl (st_box' rfl (fun w hh => (cv_aggs ⟨cv_int, cv_int, cv_int, (hh.cv 1 rfl), trivial⟩))) (fun b1 => ?_)
 refine JL_st wn rfl (st_box' rfl (fun w hh => (cv_aggs ⟨cv_int, cv_int, cv_int, (hh.cv 1 rfl), trivial⟩))) (fun b2 => ?_)
 refine JA rfl rfl ?_
 refine JL_nt ?_
 refine J_sr ?_
 refine JL_q wn rfl (ex_fieldAddr fi_54_0 rfl rfl) ?_
 refine JL_q wn rfl (ex_load_bx 1 ti_2 rfl rfl rfl) ?_
 refine JL_q wn rfl (ex_fieldAddr fi_54_0 rfl rfl) ?_
 refine JL_q wn rfl (ex_load_bx 0 ti_2 rfl rfl rfl) ?_
 refine JL_q wn rfl (ex_eql rfl rfl) ?_
 refine JM rfl rfl ?_
 refine JL_cond (fun h3 => ?_) (fun h3 => ?_)
 ·refine JL_q (wants_some rfl rfl rfl h3) rfl (ex_fieldAddr fi_54_1 rfl rfl) ?_
  refine JL_q (wants_some rfl rfl rfl h3) rfl (ex_load_bx 1 ti_2 rfl rfl rfl) ?_
  refine JL_q (wants_some rfl rfl rfl h3) rfl (ex_fieldAddr fi_54_1 rfl rfl) ?_
  refine JL_q (wants_some rfl rfl rfl h3) rfl (ex_load_bx 0 ti_2 rfl rfl rfl) ?_
  refine JL_q (wants_some rfl rfl rfl h3) rfl (ex_eql rfl rfl) ?_
  refine JL_q wn rfl (ex_pick_true rfl h3 rfl) ?_
  refine JM rfl rfl ?_
  refine JL_cond (fun h4 => ?_) (fun h4 => ?_)
  ·refine JL_q (wants_some rfl rfl rfl h4) rfl (ex_fieldAddr fi_54_2 rfl rfl) ?_
   refine JL_q (wants_some rfl rfl rfl h4) rfl (ex_load_bx 1 ti_2 rfl rfl rfl) ?_
   refine JL_q (wants_some rfl rfl rfl h4) rfl (ex_fieldAddr fi_54_2 rfl rfl) ?_
   refine JL_q (wants_some rfl rfl rfl h4) rfl (ex_load_bx 0 ti_2 rfl rfl rfl) ?_
   refine JL_q (wants_some rfl rfl rfl h4) rfl (ex_eql rfl rfl) ?_
   refine JL_q wn rfl (ex_pick_true rfl h4 rfl) ?_
   refine JM rfl rfl ?_
   refine JL_cond (fun h5 => ?_) (fun h5 => ?_)
   ·refine JL_q (wants_some rfl rfl rfl h5) rfl (ex_fieldAddr fi_54_3 rfl rfl) ?_
    refine JL_q (wants_some rfl rfl rfl h5) rfl (ex_load_bx 1 ti_52 rfl rfl rfl) ?_
    refine JL_q (wants_some rfl rfl rfl h5) rfl (ex_fieldAddr fi_54_3 rfl rfl) ?_
    refine JL_q (wants_some rfl rfl rfl h5) rfl (ex_load_bx 0 ti_52 rfl rfl rfl) ?_
    refine JL_bnd fun r6 hr7 => ?_
    refine JL_call (wants_some rfl rfl rfl h5) rfl Try.call47 rfl (Ca_of0 fun w hh => c_slices_Equal_Simpl_Expr_impl_Expr _ w (fun _ hk => hk.elim) _ _ (hh.rd0 3 rfl) _ _ (hh.rd0 2 rfl) _ hr7) (fun _ => ?_)
    refine JL_q wn rfl (ex_pick_true rfl h5 rfl) ?_
    refine JA rfl rfl ?_
    refine JL_nt ?_
    refine J_ret ?_
    exact N_ret1 rfl (rv_tmp rfl) (fun w hh => ⟨(), rfl, hh.sel [] rfl⟩)
   ·refine JL_passed rfl rfl rfl h5 ?_
    refine JL_passed rfl rfl rfl h5 ?_
    refine JL_passed rfl rfl rfl h5 ?_
    refine JL_passed rfl rfl rfl h5 ?_
    refine JL_passed rfl rfl rfl h5 ?_
    refine JL_q wn rfl (ex_pick_false rfl h5 rfl) ?_
    refine JA rfl rfl ?_
    refine JL_nt ?_
    refine J_ret ?_
    exact N_ret1 rfl (rv_tmp rfl) (fun w hh => ⟨(), rfl, hh.sel [] rfl⟩)
  ·refine JL_passed rfl rfl rfl h4 ?_
   refine JL_passed rfl rfl rfl h4 ?_
   refine JL_passed rfl rfl rfl h4 ?_
   refine JL_passed rfl rfl rfl h4 ?_
   refine JL_passed rfl rfl rfl h4 ?_
   refine JL_q wn rfl (ex_pick_false rfl h4 rfl) ?_
   refine JM rfl rfl ?_
   refine JL_passed rfl rfl rfl rfl ?_
   refine JL_passed rfl rfl rfl rfl ?_
   refine JL_passed rfl rfl rfl rfl ?_
   refine JL_passed rfl rfl rfl rfl ?_
   refine JL_passed rfl rfl rfl rfl ?_
   refine JL_q wn rfl (ex_pick_false rfl rfl rfl) ?_
   refine JA rfl rfl ?_
   refine JL_nt ?_
   refine J_ret ?_
   exact N_ret1 rfl (rv_tmp rfl) (fun w hh => ⟨(), rfl, hh.sel [] rfl⟩)
 ·refine JL_passed rfl rfl rfl h3 ?_
  refine JL_passed rfl rfl rfl h3 ?_
  refine JL_passed rfl rfl rfl h3 ?_
  refine JL_passed rfl rfl rfl h3 ?_
  refine JL_passed rfl rfl rfl h3 ?_
  refine JL_q wn rfl (ex_pick_false rfl h3 rfl) ?_
  refine JM rfl rfl ?_
  refine JL_passed rfl rfl rfl rfl ?_
  refine JL_passed rfl rfl rfl rfl ?_
  refine JL_passed rfl rfl rfl rfl ?_
  refine JL_passed rfl rfl rfl rfl ?_
  refine JL_passed rfl rfl rfl rfl ?_
  refine JL_q wn rfl (ex_pick_false rfl rfl rfl) ?_
  refine JM rfl rfl ?_
  refine JL_passed rfl rfl rfl rfl ?_
  refine JL_passed rfl rfl rfl rfl ?_
  refine JL_passed rfl rfl rfl rfl ?_
  refine JL_passed rfl rfl rfl rfl ?_
  refine JL_passed rfl rfl rfl rfl ?_
  refine JL_q wn rfl (ex_pick_false rfl rfl rfl) ?_
  refine JA rfl rfl ?_
  refine JL_nt ?_
  refine J_ret ?_
  exact N_ret1 rfl (rv_tmp rfl) (fun w hh => ⟨(), rfl, hh.sel [] rfl⟩)
end Go.Proofs.Ytlikagofgciflaa
