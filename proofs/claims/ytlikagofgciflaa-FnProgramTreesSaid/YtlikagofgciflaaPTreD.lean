/-
  Codes of expressions are read back; valid expressions. No program in sight. No condition.
-/
import Derived.Test.YtlikagofgciflaaPTreC
namespace Go.Fn
open Go Go.Tc
noncomputable def stpDe : (Tre → Option (List GExpr × Bool)) → Tre → Option (List GExpr × Bool) := fun rec_ a_ => F_impl_decodedExpr_step (fun p0 => rec_ p0) a_
theorem mono_de : Mono stpDe := by
 intro f g h a r
 refine (?_ : OLe _ _) r
 unfold stpDe F_impl_decodedExpr_step
 have hr : ∀ x, OLe (f x) (g x) := fun x r => h x r
 repeat' first | with_reducible exact OLe.refl _ | with_reducible exact hr _ | with_reducible refine OLe.cond _ ?_ ?_ | with_reducible refine OLe.bnd ?_ (fun _ => ?_) | with_reducible refine OLe.elim _ (fun _ => ?_) (fun _ => ?_)
theorem head_nd (a b : Sh) : F_impl_tree_headOf (Sh.nd a b).tr = some a.tr := rfl
theorem tail_nd (a b : Sh) : F_impl_tree_tailOf (Sh.nd a b).tr = some b.tr := rfl
theorem eq_tag {i j : Nat} (hi : i < 10) (hj : j < 10) : F_impl_tree_equal (tagS i).tr (tagS j).tr = some (decide (i = j)) := by
 rw [tr_equal]
 congr 1
 rw [decide_eq_decide]
 exact ⟨fun h => tagS_inj i hi j hj h, fun h => by rw [h]⟩
noncomputable def deR (kd : Int) (ea eb : List GExpr) : Option (Int ⊕ Out Int (List GExpr × Bool)) := bnd (F_impl_exprFollow (⟨kd, 0⟩ : GExpr)) fun r100 => (cond (decide (r100 = 2)) (bnd (F_slices_Concat_Simpl_Expr_impl_Expr ([([(⟨kd, 0⟩ : GExpr)] : List GExpr), ea, eb] : List (List GExpr))) fun r105 => some (.inr (.ret (r105, true)))) (bnd (app ([(⟨kd, 0⟩ : GExpr)] : List GExpr) ea) fun z112 => (cond (decide ((eb.length : Int) = 1)) (bnd (idx eb 0) fun y116 => some (.inr (.ret (z112, (decide (y116.Kind = 0)))))) (some (.inr (.ret (z112, false)))))))
theorem de_loop {r4 : Tre} {m : Nat} (hm : m < 10) {x y : Sh} (h4 : r4 = (Sh.nd (.nd (tagS m) .nl) (.nd x y)).tr) {ea eb : List GExpr} {j : Nat} (hj : j < 4) (kd : Int) (hk : ([2, 3, 4, 5] : List Int)[j]? = some kd) (hmk : F_impl_markOf kd = some (m : Int)) (R : List GExpr × Bool)
  (hR : deR kd ea eb = some (.inr (.ret R)))
  (hne : ∀ i, i < j → ∀ k2, ([2, 3, 4, 5] : List Int)[i]? = some k2 → ∃ m2 : Nat, F_impl_markOf k2 = some (m2 : Int) ∧ m2 < 10 ∧ m2 ≠ m) :
  run (F_impl_decodedExpr_L1 r4 (ea, true) (eb, true)) 0 = some (.ret R) := by
 subst h4
 have key : ∀ (n i : Nat), i + n = j → run (F_impl_decodedExpr_L1 (Sh.nd (.nd (tagS m) .nl) (.nd x y)).tr (ea, true) (eb, true)) (i : Int) = some (.ret R) := by
  intro n
  induction n with
  | zero =>
   intro i hi
   obtain rfl : i = j := by omega
   obtain ⟨hlt, he⟩ := List.getElem?_eq_some_iff.1 hk
   refine run_done ?_
   simp only [F_impl_decodedExpr_L1]
   rw [decide_eq_true (by simp; omega), cond_true, idx_nat hlt, he, bnd_some_eq, Bool.not_true, cond_false, cond_false, tr_cells, bnd_some_eq]
   simp only
   rw [tr_cells, bnd_some_eq, hmk, bnd_some_eq, tag_tree hm, bnd_some_eq]
   simp only
   rw [eq_tag hm hm, bnd_some_eq, decide_eq_true rfl, Bool.not_true, cond_false]
   exact hR
  | succ n ih =>
   intro i hi
   have hil : i < ([2, 3, 4, 5] : List Int).length := by simp; omega
   obtain ⟨m2, h1, h2, h3⟩ := hne i (by omega) _ (List.getElem?_eq_getElem hil)
   have hb : F_impl_decodedExpr_L1 (Sh.nd (.nd (tagS m) .nl) (.nd x y)).tr (ea, true) (eb, true) (i : Int) = some (.inl ((i + 1 : Nat) : Int)) := by
    simp only [F_impl_decodedExpr_L1]
    rw [decide_eq_true (by simp; omega), cond_true, idx_nat hil, bnd_some_eq, Bool.not_true, cond_false, cond_false, tr_cells, bnd_some_eq]
    simp only
    rw [tr_cells, bnd_some_eq, h1, bnd_some_eq, tag_tree h2, bnd_some_eq]
    simp only
    rw [eq_tag hm h2, bnd_some_eq, decide_eq_false (fun e => h3 e.symm), Bool.not_false, cond_true, w64_nat1 (by omega)]
   rw [run_next hb]
   exact ih (i + 1) (by omega)
 exact key j 0 (by omega)
theorem de_other (rec_ : Tre → Option (List GExpr × Bool)) (m : Nat) (x y : Sh) (ea eb : List GExpr × Bool) (hx : rec_ x.tr = some ea) (hy : rec_ y.tr = some eb) (R : List GExpr × Bool) (h : run (F_impl_decodedExpr_L1 (Sh.nd (.nd (tagS m) .nl) (.nd x y)).tr ea eb) 0 = some (.ret R)) :
  F_impl_decodedExpr_step (fun p0 => rec_ p0) (Sh.nd (tagS 2) (.nd (.nd (tagS m) .nl) (.nd x y))).tr = some R := by
 unfold F_impl_decodedExpr_step
 rw [head_nd, bnd_some_eq, tail_nd, bnd_some_eq, tr_isNil_nd, cond_false, tag0, bnd_some_eq, eq_tag (by omega) (by omega), bnd_some_eq, decide_eq_false (by decide), cond_false, tag1, bnd_some_eq, eq_tag (by omega) (by omega), bnd_some_eq, decide_eq_false (by decide), cond_false, tag2, bnd_some_eq, eq_tag (by omega) (by omega), bnd_some_eq, decide_eq_true rfl, Bool.not_true, cond_false, tr_isNil_nd, cond_false, tr_cells, bnd_some_eq]
 simp only
 rw [tr_isNil_nd, cond_false, bnd_some_eq]
 simp only
 rw [tr_cells, bnd_some_eq]
 simp only
 rw [show (Sh.nl.tr).isNil = true from rfl, Bool.not_true, cond_false, bnd_some_eq]
 simp only
 rw [tr_isNil_nd, cond_false, bnd_some_eq]
 simp only [Out.elim]
 rw [bnd_some_eq]
 simp only
 rw [tr_cells, bnd_some_eq]
 simp only
 rw [hx, bnd_some_eq, bnd_some_eq]
 simp only
 rw [tr_cells, bnd_some_eq]
 simp only
 rw [hy, bnd_some_eq, h, bnd_some_eq]
 rfl
theorem de_fix : ∀ (e : Ec) (f : Nat), e.sz + 1 ≤ f → e.sz ≤ 1000 → fixN stpDe f e.code.tr = some (e.flat, true) := by
 have hn : ∀ f, fixN stpDe (f + 1) Ec.nil.code.tr = some ([⟨0, 0⟩], true) := fun f => by
  rw [fixN_succ]
  show F_impl_decodedExpr_step (fun p0 => fixN stpDe f p0) (Sh.nd (tagS 0) .nl).tr = _
  unfold F_impl_decodedExpr_step
  rw [head_nd, bnd_some_eq, tail_nd, bnd_some_eq, tr_isNil_nd, cond_false, tag0, bnd_some_eq, eq_tag (by omega) (by omega), bnd_some_eq, decide_eq_true rfl, cond_true, bnd_some_eq]
  rfl
 intro e
 induction e with
 | nil =>
  intro f hf _
  obtain ⟨f, rfl⟩ : ∃ g, f = g + 1 := ⟨f - 1, by omega⟩
  exact hn f
 | var =>
  intro f hf _
  obtain ⟨f, rfl⟩ : ∃ g, f = g + 1 := ⟨f - 1, by omega⟩
  rw [fixN_succ]
  show F_impl_decodedExpr_step (fun p0 => fixN stpDe f p0) (Sh.nd (tagS 1) .nl).tr = _
  unfold F_impl_decodedExpr_step
  rw [head_nd, bnd_some_eq, tail_nd, bnd_some_eq, tr_isNil_nd, cond_false, tag0, bnd_some_eq, eq_tag (by omega) (by omega), bnd_some_eq, decide_eq_false (by decide), cond_false, tag1, bnd_some_eq, eq_tag (by omega) (by omega), bnd_some_eq, decide_eq_true rfl, cond_true, bnd_some_eq]
  rfl
 | un k a ha =>
  intro f hf hs
  simp only [Ec.sz] at hf hs
  have hap := a.pos
  have hal := a.len
  obtain ⟨f, rfl⟩ : ∃ g, f = g + 1 + 1 := ⟨f - 2, by omega⟩
  rw [fixN_succ]
  refine de_other (fixN stpDe (f + 1)) (umark k) a.code Ec.nil.code _ _ (ha (f + 1) (by omega) (by omega)) (hn f) _ ?_
  cases k with
  | false =>
   refine de_loop (umark_lt false) rfl (j := 1) (by omega) 3 rfl rfl _ ?_ ?_
   ·unfold deR
    rw [show F_impl_exprFollow (⟨3, 0⟩ : GExpr) = some 1 from rfl, bnd_some_eq, decide_eq_false (by decide), cond_false, app_ok (by simp; omega), bnd_some_eq, decide_eq_true (by simp), cond_true]
    rfl
   ·intro i hi k2 h2
    obtain rfl : i = 0 := by omega
    obtain rfl := Option.some.inj h2
    exact ⟨3, rfl, by decide, by decide⟩
  | true =>
   refine de_loop (umark_lt true) rfl (j := 2) (by omega) 4 rfl rfl _ ?_ ?_
   ·unfold deR
    rw [show F_impl_exprFollow (⟨4, 0⟩ : GExpr) = some 1 from rfl, bnd_some_eq, decide_eq_false (by decide), cond_false, app_ok (by simp; omega), bnd_some_eq, decide_eq_true (by simp), cond_true]
    rfl
   ·intro i hi k2 h2
    obtain rfl | rfl : i = 0 ∨ i = 1 := by omega
    ·obtain rfl := Option.some.inj h2
     exact ⟨3, rfl, by decide, by decide⟩
    ·obtain rfl := Option.some.inj h2
     exact ⟨4, rfl, by decide, by decide⟩
 | bin k a b ha hb =>
  intro f hf hs
  simp only [Ec.sz] at hf hs
  have hap := a.pos
  have hal := a.len
  have hbp := b.pos
  have hbl := b.len
  obtain ⟨f, rfl⟩ : ∃ g, f = g + 1 := ⟨f - 1, by omega⟩
  rw [fixN_succ]
  refine de_other (fixN stpDe f) (bmark k) a.code b.code _ _ (ha f (by omega) (by omega)) (hb f (by omega) (by omega)) _ ?_
  have hc : ∀ kd : Int, F_slices_Concat_Simpl_Expr_impl_Expr [[⟨kd, 0⟩], a.flat, b.flat] = some (⟨kd, 0⟩ :: (a.flat ++ b.flat)) := fun kd => by
   rw [ex_concat _ (by simp) (by simp; omega)]
   simp
  cases k with
  | false =>
   refine de_loop (bmark_lt false) rfl (j := 0) (by omega) 2 rfl rfl _ ?_ (fun i hi => by omega)
   unfold deR
   rw [show F_impl_exprFollow (⟨2, 0⟩ : GExpr) = some 2 from rfl, bnd_some_eq, decide_eq_true rfl, cond_true, hc, bnd_some_eq]
   rfl
  | true =>
   refine de_loop (bmark_lt true) rfl (j := 3) (by omega) 5 rfl rfl _ ?_ ?_
   ·unfold deR
    rw [show F_impl_exprFollow (⟨5, 0⟩ : GExpr) = some 2 from rfl, bnd_some_eq, decide_eq_true rfl, cond_true, hc, bnd_some_eq]
    rfl
   ·intro i hi k2 h2
    obtain rfl | rfl | rfl : i = 0 ∨ i = 1 ∨ i = 2 := by omega
    ·obtain rfl := Option.some.inj h2
     exact ⟨3, rfl, by decide, by decide⟩
    ·obtain rfl := Option.some.inj h2
     exact ⟨4, rfl, by decide, by decide⟩
    ·obtain rfl := Option.some.inj h2
     exact ⟨5, rfl, by decide, by decide⟩
theorem de_expr (e : Ec) (h : e.sz ≤ 1000) : F_impl_decodedExpr e.code.tr = some (e.flat, true) := (fixR_iff mono_de).2 ⟨_, de_fix e (e.sz + 1) (Nat.le_refl _) h⟩
theorem flat_in (e : Ec) : ∀ x ∈ e.flat, (0 ≤ x.Kind ∧ x.Kind ≤ 5) ∧ x.Variable = 0 := by
 have hu : ∀ k, 0 ≤ ukind k ∧ ukind k ≤ 5 := fun k => by cases k <;> decide
 have hb : ∀ k, 0 ≤ bkind k ∧ bkind k ≤ 5 := fun k => by cases k <;> decide
 induction e with
 | nil => intro x hx; rw [List.mem_singleton.1 hx]; exact ⟨⟨by decide, by decide⟩, rfl⟩
 | var => intro x hx; rw [List.mem_singleton.1 hx]; exact ⟨⟨by decide, by decide⟩, rfl⟩
 | un k a ha =>
  intro x hx
  rcases List.mem_cons.1 hx with rfl | hx
  ·exact ⟨hu k, rfl⟩
  ·exact ha x hx
 | bin k a b ha hb' =>
  intro x hx
  rcases List.mem_cons.1 hx with rfl | hx
  ·exact ⟨hb k, rfl⟩
  ·rcases List.mem_append.1 hx with hx | hx
   ·exact ha x hx
   ·exact hb' x hx
theorem im_in (x lo hi : Int) (h : lo ≤ x ∧ x ≤ hi) : F_impl_within x lo hi = some true := by
 unfold F_impl_within
 rw [decide_eq_true h.1, cond_true, decide_eq_true h.2]
theorem va_expr (e : Ec) (h : e.sz ≤ 40) : F_impl_ValidExpr e.flat = some true := by
 have hl := e.len
 have hp := e.pos
 have hin := flat_in e
 unfold F_impl_ValidExpr F_impl_size_impl_Expr
 rw [bnd_some_eq, im_in _ _ _ (by omega), bnd_some_eq, Bool.not_true, cond_false]
 rw [run_all e.flat.length (by omega) (fun _ => true) (.ret false) (.brk (e.flat.length : Int)) (fun i hi _ => by
  have hm := hin _ (List.getElem_mem hi)
  simp only [F_impl_ValidExpr_L1]
  rw [decide_eq_true (by omega), cond_true, idx_nat hi, bnd_some_eq, im_in _ _ _ hm.1, bnd_some_eq, Bool.not_true, cond_false]
  unfold F_impl_isWhileVariable
  rw [hm.2, im_in _ _ _ (by omega), bnd_some_eq, bnd_some_eq, Bool.not_true, cond_false]
  have h0 : decide ((0 : Int) ≠ 0) = false := by decide
  rw [h0, cond_false]
  cases decide (e.flat[i].Kind ≠ 1) <;> rfl) (fun i hi hp => by cases hp) (by
   simp only [F_impl_ValidExpr_L1]
   rw [decide_eq_false (by omega), cond_false]), if_pos (fun _ _ => rfl), bnd_some_eq]
 simp only [Out.elim]
 have ht := term_end e.flat (by omega) e 0 [] (by simp)
 rw [show ((0 : Nat) : Int) = 0 from rfl] at ht
 rw [ht, bnd_some_eq, hl]
 simp
theorem oz_expr (e : Ec) (h : e.sz ≤ 1000) : F_impl_onlyZero e.flat = some true := by
 have hl := e.len
 have hin := flat_in e
 unfold F_impl_onlyZero F_slices_ContainsFunc_Simpl_Expr_impl_Expr F_slices_IndexFunc_Simpl_Expr_impl_Expr
 rw [run_all e.flat.length (by omega) (fun _ => true) (.ret 0) (.brk (e.flat.length : Int)) (fun i hi _ => by
  have hm := hin _ (List.getElem_mem hi)
  simp only [F_slices_IndexFunc_Simpl_Expr_impl_Expr_L1]
  rw [decide_eq_true (by omega), cond_true, idx_nat hi, bnd_some_eq, F_impl_onlyZero_1, bnd_some_eq, hm.2]
  rfl) (fun i hi hp => by cases hp) (by
   simp only [F_slices_IndexFunc_Simpl_Expr_impl_Expr_L1]
   rw [decide_eq_false (by omega), cond_false]), if_pos (fun _ _ => rfl), bnd_some_eq]
 rfl
end Go.Fn
