/-
  Codes of while programs are read back; valid programs; equal programs. No program in sight. No condition.
-/
import Derived.Test.YtlikagofgciflaaPTreE
namespace Go.Fn
open Go Go.Tc
noncomputable def stpDw : (Tre → Option (List GCommand × Bool)) → Tre → Option (List GCommand × Bool) := fun rec_ a_ => F_impl_decodedWhile_step (fun p0 => rec_ p0) a_
theorem mono_dw : Mono stpDw := by
 intro f g h a r
 refine (?_ : OLe _ _) r
 unfold stpDw F_impl_decodedWhile_step F_impl_decodedWhile_L1
 have hr : ∀ x, OLe (f x) (g x) := fun x r => h x r
 repeat' first | with_reducible exact OLe.refl _ | with_reducible exact hr _ | with_reducible refine OLe.run (fun _ => ?_) | with_reducible refine OLe.cond _ ?_ ?_ | with_reducible refine OLe.bnd ?_ (fun _ => ?_) | with_reducible refine OLe.elim _ (fun _ => ?_) (fun _ => ?_)
theorem map_drop_at {l : List Sh} {k : Nat} {s : Sh} {t : List Sh} (h : l.drop k = s :: t) : idx (l.map Sh.tr) (k : Int) = some s.tr ∧ l.drop (k + 1) = t := by
 have h' : (l.map Sh.tr).drop k = s.tr :: t.map Sh.tr := by rw [← List.map_drop, h]; rfl
 exact ⟨(drop_at h').1, (drop_at h).2⟩
theorem dw_run (rec_ : Tre → Option (List GCommand × Bool)) (N : Nat) (hrec : ∀ b : Pg, b.sz ≤ N → b.ok → rec_ b.code.tr = some (b.flat, true)) (l : List Sh) (hx : l.length ≤ 1000) : ∀ (q : Pg) (k : Nat) (out : List GCommand), q.sz ≤ N + 1 → q.sz ≤ 1000 → q.ok → l.drop k = q.trs → k ≤ l.length → out.length + q.sz ≤ 1000 →
  run (F_impl_decodedWhile_L1 rec_ (l.map Sh.tr)) (out, (k : Int)) = some (.brk (out ++ q.flat, (l.length : Int))) := by
 intro q
 induction q with
 | nil =>
  intro k out hq _ hok h hk ho
  have hl := congrArg List.length h
  simp only [List.length_drop, Pg.trs, List.length_nil] at hl
  obtain rfl : k = l.length := by omega
  refine run_done ?_
  simp only [F_impl_decodedWhile_L1]
  rw [decide_eq_false (by simp), cond_false]
  simp [Pg.flat]
 | set e r hr =>
  intro k out hq hq2 hok h hk ho
  simp only [Pg.sz] at hq hq2 ho
  obtain ⟨e1, e2⟩ := map_drop_at h
  have hl := congrArg List.length h
  simp only [List.length_drop, Pg.trs, List.length_cons] at hl
  have he := hok.1
  have hb : F_impl_decodedWhile_L1 rec_ (l.map Sh.tr) (out, (k : Int)) = some (.inl (out ++ [⟨0, 0, 0, e.flat⟩], ((k + 1 : Nat) : Int))) := by
   simp only [F_impl_decodedWhile_L1]
   rw [decide_eq_true (by simp; omega), cond_true, e1, bnd_some_eq, head_nd, bnd_some_eq, tail_nd, bnd_some_eq, tr_isNil_nd, Bool.not_false, cond_true, tag7, bnd_some_eq, eq_tag (by omega) (by omega), bnd_some_eq, bnd_some_eq, decide_eq_true rfl]
   simp only [Out.elim]
   rw [cond_true, de_expr e (by omega), bnd_some_eq, Bool.not_true, cond_false]
   simp only [F_impl_setTo]
   rw [bnd_some_eq, app_ok (by simp; omega), bnd_some_eq, w64_nat1 (by omega)]
  rw [run_next hb, hr (k + 1) _ (by omega) (by omega) hok.2 e2 (by omega) (by simp; omega)]
  simp [Pg.flat]
 | loop e b r hb' hr =>
  intro k out hq hq2 hok h hk ho
  simp only [Pg.sz] at hq hq2 ho
  have h' : l.drop k = Sh.nd (tagS 9) (.nd e.code b.code) :: r.trs := h
  obtain ⟨e1, e2⟩ := map_drop_at h'
  have hl := congrArg List.length h'
  simp only [List.length_drop, List.length_cons] at hl
  have he := hok.1
  have hbl := b.len
  have hb : F_impl_decodedWhile_L1 rec_ (l.map Sh.tr) (out, (k : Int)) = some (.inl (out ++ (⟨1, 0, (b.sz : Int), e.flat⟩ :: b.flat), ((k + 1 : Nat) : Int))) := by
   simp only [F_impl_decodedWhile_L1]
   rw [decide_eq_true (by simp; omega), cond_true, e1, bnd_some_eq, head_nd, bnd_some_eq, tail_nd, bnd_some_eq, tr_isNil_nd, Bool.not_false, cond_true, tag7, bnd_some_eq, eq_tag (by omega) (by omega), bnd_some_eq, bnd_some_eq, decide_eq_false (by decide)]
   simp only [Out.elim]
   rw [cond_false, cond_true, tag9, bnd_some_eq, eq_tag (by omega) (by omega), bnd_some_eq, decide_eq_true rfl, cond_true, tr_isNil_nd, Bool.not_false, cond_true, tr_cells, bnd_some_eq]
   simp only
   rw [de_expr e (by omega), bnd_some_eq, bnd_some_eq]
   simp only
   rw [hrec b (by omega) hok.2.1, bnd_some_eq, Bool.not_true, cond_false, cond_false]
   simp only [F_impl_enclosed, F_impl_size_impl_Command, bnd_some_eq]
   rw [app_ok (by simp; omega), bnd_some_eq, bnd_some_eq, app_ok (by simp; omega), bnd_some_eq, w64_nat1 (by omega), hbl]
   rfl
  rw [run_next hb, hr (k + 1) _ (by omega) (by omega) hok.2.2 e2 (by omega) (by simp; omega)]
  simp [Pg.flat]
theorem dw_fix : ∀ (n : Nat) (p : Pg), p.sz ≤ n → p.sz ≤ 1000 → p.ok → fixN stpDw (n + 1) p.code.tr = some (p.flat, true) := by
 have key : ∀ (f N : Nat) (p : Pg), (∀ b : Pg, b.sz ≤ N → b.ok → fixN stpDw f b.code.tr = some (b.flat, true)) → p.sz ≤ N + 1 → p.sz ≤ 1000 → p.ok → fixN stpDw (f + 1) p.code.tr = some (p.flat, true) := by
  intro f N p hrec hp hp2 hok
  have htl := trs_len p
  rw [fixN_succ]
  show F_impl_decodedWhile_step (fun p0 => fixN stpDw f p0) (listS p.trs).tr = _
  unfold F_impl_decodedWhile_step
  have hrun := dw_run (fun p0 => fixN stpDw f p0) N hrec p.trs (by omega) p 0 [] hp hp2 hok (by simp) (Nat.zero_le _) (by simpa using hp2)
  rw [show ((0 : Nat) : Int) = 0 from rfl] at hrun
  rw [lot _ (by omega), bnd_some_eq, hrun, bnd_some_eq]
  simp only [Out.elim, List.nil_append]
 intro n
 induction n with
 | zero =>
  intro p hp hp2 hok
  cases p with
  | nil =>
   rw [fixN_succ]
   show F_impl_decodedWhile_step (fun p0 => fixN stpDw 0 p0) (listS []).tr = _
   unfold F_impl_decodedWhile_step
   rw [lot [] (by simp), bnd_some_eq, run_done (x := .brk (([] : List GCommand), (0 : Int))) (by simp [F_impl_decodedWhile_L1]), bnd_some_eq]
   rfl
  | set e r => simp only [Pg.sz] at hp; omega
  | loop e b r => simp only [Pg.sz] at hp; omega
 | succ n ih =>
  intro p hp hp2 hok
  exact key (n + 1) (min n 999) p (fun b hb hk => ih b (by omega) (by omega) hk) (by omega) hp2 hok
theorem dw_prog (p : Pg) (h : p.sz ≤ 1000) (hok : p.ok) : F_impl_decodedWhile p.code.tr = some (p.flat, true) := (fixR_iff mono_dw).2 ⟨_, dw_fix p.sz p (Nat.le_refl _) h hok⟩
noncomputable def stpVc : (List GCommand → Option Bool) → List GCommand → Option Bool := fun rec_ a_ => F_impl_validCommands_step (fun p0 => rec_ p0) a_
theorem mono_vc : Mono stpVc := by
 intro f g h a r
 refine (?_ : OLe _ _) r
 unfold stpVc F_impl_validCommands_step F_impl_validCommands_L1
 have hr : ∀ x, OLe (f x) (g x) := fun x r => h x r
 repeat' first | with_reducible exact OLe.refl _ | with_reducible exact hr _ | with_reducible refine OLe.run (fun _ => ?_) | with_reducible refine OLe.cond _ ?_ ?_ | with_reducible refine OLe.bnd ?_ (fun _ => ?_) | with_reducible refine OLe.elim _ (fun _ => ?_) (fun _ => ?_)
theorem vc_run (p0 : List GCommand) (hx : p0.length ≤ 1000) (rec_ : List GCommand → Option Bool) (N : Nat) (hrec : ∀ b : Pg, b.sz ≤ N → b.ok → rec_ b.flat = some true) : ∀ (q : Pg) (k : Nat), q.sz ≤ N + 1 → q.ok → p0.drop k = q.flat → k ≤ p0.length →
  run (F_impl_validCommands_L1 p0 rec_) (k : Int) = some (.brk (p0.length : Int)) := by
 intro q
 induction q with
 | nil =>
  intro k hq hok h hk
  have hl := congrArg List.length h
  simp only [List.length_drop, Pg.flat, List.length_nil] at hl
  obtain rfl : k = p0.length := by omega
  refine run_done ?_
  simp only [F_impl_validCommands_L1]
  rw [decide_eq_false (by omega), cond_false]
 | set e r hr =>
  intro k hq hok h hk
  simp only [Pg.sz] at hq
  obtain ⟨e1, e2⟩ := drop_at h
  have hl := congrArg List.length h
  simp only [List.length_drop, Pg.flat, List.length_cons] at hl
  have he := hok.1
  have hb : F_impl_validCommands_L1 p0 rec_ (k : Int) = some (.inl ((k + 1 : Nat) : Int)) := by
   simp only [F_impl_validCommands_L1]
   rw [decide_eq_true (by omega), cond_true, e1, bnd_some_eq, va_expr e he, bnd_some_eq, Bool.not_true, cond_false]
   simp only [decide_true, cond_true]
   unfold F_impl_isWhileVariable
   rw [im_in _ _ _ (by omega), bnd_some_eq, bnd_some_eq, Bool.not_true, cond_false, decide_eq_false (by simp), cond_false, w64_nat1 (by omega)]
  rw [run_next hb]
  exact hr (k + 1) (by omega) hok.2 e2 (by omega)
 | loop e b r hb' hr =>
  intro k hq hok h hk
  simp only [Pg.sz] at hq
  have h' : p0.drop k = ⟨1, 0, (b.sz : Int), e.flat⟩ :: (b.flat ++ r.flat) := h
  obtain ⟨e1, e2⟩ := drop_at h'
  have e3 := drop_app e2
  rw [Pg.len] at e3
  have hl := congrArg List.length h'
  simp only [List.length_drop, List.length_cons, List.length_append, Pg.len] at hl
  have he := hok.1
  have hsl : slc p0 ((k + 1 : Nat) : Int) ((k + 1 + b.sz : Nat) : Int) = some b.flat := by
   rw [slc_ok (by omega) (by omega), List.drop_take, e2, show k + 1 + b.sz - (k + 1) = b.flat.length by rw [Pg.len]; omega, List.take_left]
  have hb : F_impl_validCommands_L1 p0 rec_ (k : Int) = some (.inl ((k + 1 + b.sz : Nat) : Int)) := by
   simp only [F_impl_validCommands_L1]
   rw [decide_eq_true (by omega), cond_true, e1, bnd_some_eq, va_expr e he, bnd_some_eq, Bool.not_true, cond_false]
   simp only [decide_true]
   rw [decide_eq_false (by decide), cond_false, cond_true, decide_eq_false (by simp), cond_false, w64_in (n := (p0.length : Int) - (k : Int)) (by omega) (by omega), w64_in (n := (p0.length : Int) - (k : Int) - 1) (by omega) (by omega), im_in _ _ _ (by omega), bnd_some_eq, Bool.not_true, cond_false, w64_nat1 (by omega), w64_in (n := ((k + 1 : Nat) : Int) + (b.sz : Int)) (by omega) (by omega), show ((k + 1 : Nat) : Int) + (b.sz : Int) = ((k + 1 + b.sz : Nat) : Int) by omega, hsl, bnd_some_eq, hrec b (by omega) hok.2.1, bnd_some_eq, Bool.not_true, cond_false, w64_in (n := (k : Int) + (b.sz : Int)) (by omega) (by omega), w64_in (by omega) (by omega)]
   congr 2
   omega
  rw [run_next hb]
  exact hr (k + 1 + b.sz) (by omega) hok.2.2 e3 (by omega)
theorem vc_fix : ∀ (n : Nat) (p : Pg), p.sz ≤ n → p.sz ≤ 1000 → p.ok → fixN stpVc (n + 1) p.flat = some true := by
 have key : ∀ (f N : Nat) (p : Pg), (∀ b : Pg, b.sz ≤ N → b.ok → fixN stpVc f b.flat = some true) → p.sz ≤ N + 1 → p.sz ≤ 1000 → p.ok → fixN stpVc (f + 1) p.flat = some true := by
  intro f N p hrec hp hp2 hok
  have hl := p.len
  rw [fixN_succ]
  show F_impl_validCommands_step (fun p0 => fixN stpVc f p0) p.flat = _
  unfold F_impl_validCommands_step
  have hrun := vc_run p.flat (by omega) (fun p0 => fixN stpVc f p0) N hrec p 0 hp hok (by simp) (Nat.zero_le _)
  rw [show ((0 : Nat) : Int) = 0 from rfl] at hrun
  rw [hrun, bnd_some_eq]
  rfl
 intro n
 induction n with
 | zero =>
  intro p hp hp2 hok
  cases p with
  | nil =>
   rw [fixN_succ]
   show F_impl_validCommands_step (fun p0 => fixN stpVc 0 p0) [] = _
   unfold F_impl_validCommands_step
   rw [run_done (x := .brk (0 : Int)) (by simp [F_impl_validCommands_L1]), bnd_some_eq]
   rfl
  | set e r => simp only [Pg.sz] at hp; omega
  | loop e b r => simp only [Pg.sz] at hp; omega
 | succ n ih =>
  intro p hp hp2 hok
  exact key (n + 1) (min n 999) p (fun b hb hk => ih b (by omega) (by omega) hk) (by omega) hp2 hok
theorem vc_prog (p : Pg) (h : p.sz ≤ 1000) (hok : p.ok) : F_impl_validCommands p.flat = some true := (fixR_iff mono_vc).2 ⟨_, vc_fix p.sz p (Nat.le_refl _) h hok⟩
theorem vw_prog (p : Pg) (h : p.sz ≤ 80) (hok : p.ok) : F_impl_ValidWhile p.flat = some true := by
 have hl := p.len
 unfold F_impl_ValidWhile
 rw [decide_eq_true (by omega), cond_true, vc_prog p (by omega) hok, bnd_some_eq]
theorem flat_cmd (p : Pg) (hok : p.ok) : ∀ x ∈ p.flat, x.Variable = 0 ∧ ∃ e : Ec, e.sz ≤ 40 ∧ x.Value_ = e.flat := by
 induction p with
 | nil => intro x hx; cases hx
 | set e r hr =>
  intro x hx
  rcases List.mem_cons.1 hx with rfl | hx
  ·exact ⟨rfl, e, hok.1, rfl⟩
  ·exact hr hok.2 x hx
 | loop e b r hb hr =>
  intro x hx
  rcases List.mem_cons.1 hx with rfl | hx
  ·exact ⟨rfl, e, hok.1, rfl⟩
  ·rcases List.mem_append.1 hx with hx | hx
   ·exact hb hok.2.1 x hx
   ·exact hr hok.2.2 x hx
theorem zc_prog (p : Pg) (h : p.sz ≤ 1000) (hok : p.ok) : F_impl_zeroCode p.flat = some 0 := by
 have hl := p.len
 have hin := flat_cmd p hok
 unfold F_impl_zeroCode F_slices_ContainsFunc_Simpl_Command_impl_Command F_slices_IndexFunc_Simpl_Command_impl_Command
 rw [run_all p.flat.length (by omega) (fun _ => true) (.ret 0) (.brk (p.flat.length : Int)) (fun i hi _ => by
  obtain ⟨h1, e, h2, h3⟩ := hin _ (List.getElem_mem hi)
  simp only [F_slices_IndexFunc_Simpl_Command_impl_Command_L1, F_impl_zeroCode_1]
  rw [decide_eq_true (by omega), cond_true, idx_nat hi, bnd_some_eq, h1, decide_eq_false (by simp), cond_false, h3, oz_expr e (by omega), bnd_some_eq, Bool.not_true, bnd_some_eq, cond_false]) (fun i hi hp => by cases hp) (by
   simp only [F_slices_IndexFunc_Simpl_Command_impl_Command_L1]
   rw [decide_eq_false (by omega), cond_false]), if_pos (fun _ _ => rfl), bnd_some_eq]
 rfl
theorem ee_same (xs : List GExpr) (h : xs.length ≤ 1000) : F_slices_Equal_Simpl_Expr_impl_Expr xs xs = some true := by
 unfold F_slices_Equal_Simpl_Expr_impl_Expr
 rw [decide_eq_false (by simp), cond_false]
 rw [run_all xs.length (by omega) (fun _ => true) (.ret false) (.brk (xs.length : Int)) (fun i hi _ => by
  simp only [F_slices_Equal_Simpl_Expr_impl_Expr_L1]
  rw [decide_eq_true (by omega), cond_true, idx_nat hi, bnd_some_eq, bnd_some_eq, decide_eq_true rfl, Bool.not_true, cond_false]) (fun i hi hp => by cases hp) (by
   simp only [F_slices_Equal_Simpl_Expr_impl_Expr_L1]
   rw [decide_eq_false (by omega), cond_false]), if_pos (fun _ _ => rfl), bnd_some_eq]
 rfl
theorem sw_same (p : Pg) (h : p.sz ≤ 1000) (hok : p.ok) : F_impl_SameWhile p.flat p.flat = some true := by
 have hl := p.len
 have hin := flat_cmd p hok
 unfold F_impl_SameWhile
 rw [decide_eq_false (by simp), cond_false]
 rw [run_all p.flat.length (by omega) (fun _ => true) (.ret (some false)) (.brk (p.flat.length : Int)) (fun i hi _ => by
  obtain ⟨h1, e, h2, h3⟩ := hin _ (List.getElem_mem hi)
  have hel := e.len
  simp only [F_impl_SameWhile_L1, F_impl_sameCommand]
  rw [decide_eq_true (by omega), cond_true, idx_nat hi, bnd_some_eq, bnd_some_eq, decide_eq_true rfl, decide_eq_true rfl, decide_eq_true rfl, cond_true, cond_true, cond_true, h3, ee_same _ (by omega), bnd_some_eq, bnd_some_eq, Bool.not_true, cond_false]) (fun i hi hp => by cases hp) (by
   simp only [F_impl_SameWhile_L1]
   rw [decide_eq_false (by omega), cond_false]), if_pos (fun _ _ => rfl), bnd_some_eq]
 rfl
theorem rt_same (xs : List Bool) (h : xs.length ≤ 100000) : F_laws_r8Tree xs xs = some true := by
 unfold F_laws_r8Tree
 rw [decide_eq_false (by simp), cond_false]
 rw [run_all xs.length (by omega) (fun _ => true) (.ret false) (.brk (xs.length : Int)) (fun i hi _ => by
  simp only [F_laws_r8Tree_L1]
  rw [decide_eq_true (by omega), cond_true, idx_nat hi, bnd_some_eq, bnd_some_eq]
  cases xs[i] <;> rfl) (fun i hi hp => by cases hp) (by
   simp only [F_laws_r8Tree_L1]
   rw [decide_eq_false (by omega), cond_false]), if_pos (fun _ _ => rfl), bnd_some_eq]
 rfl
end Go.Fn
