/-
  Shapes of trees: their nodes, the trees that are made of them, equality. No program in sight. No condition.
-/
import Derived.Test.YtlikagofgciflaaFn
import Derived.Test.YtlikagofgciflaaPure
import Derived.Test.YtlikagofgciflaaPCnt
import Derived.Test.YtlikagofgciflaaPValidTiles
namespace Go.Fn
open Go Go.Tc
inductive Sh where
 | nl
 | nd (a b : Sh)
 deriving DecidableEq
def Sh.sz : Sh → Nat
 | .nl => 1
 | .nd a b => 1 + a.sz + b.sz
def Sh.tr : Sh → Tre
 | .nl => .nil
 | .nd a b => .node a.tr b.tr ((1 + a.sz + b.sz : Nat) : Int)
def Sh.bits : Sh → List Bool
 | .nl => [false]
 | .nd a b => true :: (a.bits ++ b.bits)
theorem Sh.len (s : Sh) : s.bits.length = s.sz := by
 induction s with
 | nl => rfl
 | nd a b ha hb => simp only [Sh.bits, Sh.sz, List.length_cons, List.length_append, ha, hb]; omega
theorem Sh.pos (s : Sh) : 1 ≤ s.sz := by cases s <;> simp only [Sh.sz] <;> omega
theorem tr_nodes (s : Sh) : F_impl_tree_nodesOf s.tr = some (s.sz : Int) := by
 cases s <;> rfl
theorem tr_pair (a b : Sh) (h : a.sz + b.sz ≤ 1099511627776) : F_impl_pair a.tr b.tr = some ((1 + a.sz + b.sz : Nat) : Int) := by
 unfold F_impl_pair
 rw [tr_nodes, bnd_some_eq, tr_nodes, bnd_some_eq, w64_in (n := 1 + (a.sz : Int)) (by omega) (by omega), w64_in (by omega) (by omega)]
 congr 1
theorem tr_node (a b : Sh) : Tre.node a.tr b.tr ((1 + a.sz + b.sz : Nat) : Int) = (Sh.nd a b).tr := rfl
theorem tr_isNil (s : Sh) : s.tr.isNil = decide (s = .nl) := by cases s <;> rfl
theorem tr_isNil_nd (a b : Sh) : (Sh.nd a b).tr.isNil = false := rfl
theorem tr_cells (a b : Sh) : Tre.cells (Sh.nd a b).tr = some ⟨a.tr, b.tr, ((1 + a.sz + b.sz : Nat) : Int)⟩ := rfl
theorem drop_at {α : Type} {xs : List α} {k : Nat} {c : α} {t : List α} (h : xs.drop k = c :: t) : idx xs (k : Int) = some c ∧ xs.drop (k + 1) = t := by
 have hk : k < xs.length := by
  apply Nat.lt_of_not_le
  intro hn
  rw [List.drop_eq_nil_of_le hn] at h
  cases h
 rw [List.drop_eq_getElem_cons hk] at h
 simp only [List.cons.injEq] at h
 exact ⟨by rw [idx_nat hk, h.1], h.2⟩
theorem drop_app {α : Type} {xs : List α} {k : Nat} {a t : List α} (h : xs.drop k = a ++ t) : xs.drop (k + a.length) = t := by
 rw [← List.drop_drop, h, List.drop_left]
theorem fixN_succ {α R : Type} (step : (α → Option R) → α → Option R) (k : Nat) (a : α) : fixN step (k + 1) a = step (fixN step k) a := rfl
noncomputable def stpTo : ((List Bool) × Int → Option (Tre × Int)) → (List Bool) × Int → Option (Tre × Int) := fun rec_ a_ => F_impl_treeOf_1_c0_step (fun p0 p1 => rec_ (p0, p1)) a_.1 a_.2
noncomputable def stpLi : (Tre × List Bool → Option (Unit × List Bool)) → Tre × List Bool → Option (Unit × List Bool) := fun rec_ a_ => F_impl_tree_list_1_c1_step (fun p0 p1 => rec_ (p0, p1)) a_.1 a_.2
theorem to_fix (xs : List Bool) (hx : xs.length ≤ 100000) : ∀ (s : Sh) (f k : Nat) (rest : List Bool), s.sz ≤ f → xs.drop k = s.bits ++ rest →
  fixN stpTo f (xs, (k : Int)) = some (s.tr, ((k + s.sz : Nat) : Int)) := by
 intro s
 induction s with
 | nl =>
  intro f k rest hf h
  obtain ⟨f, rfl⟩ : ∃ g, f = g + 1 := ⟨f - 1, by simp only [Sh.sz] at hf; omega⟩
  obtain ⟨e1, e2⟩ := drop_at (c := false) (t := rest) h
  have hk : k < xs.length := by
   apply Nat.lt_of_not_le
   intro hn
   rw [List.drop_eq_nil_of_le hn] at h
   cases h
  rw [fixN_succ]
  show F_impl_treeOf_1_c0_step (fun p0 p1 => fixN stpTo f (p0, p1)) xs (k : Int) = _
  unfold F_impl_treeOf_1_c0_step
  rw [e1, bnd_some_eq, Bool.not_false, cond_true, w64_nat1 (by omega)]
  rfl
 | nd a b ha hb =>
  intro f k rest hf h
  simp only [Sh.sz] at hf
  obtain ⟨f, rfl⟩ : ∃ g, f = g + 1 := ⟨f - 1, by omega⟩
  have h' : xs.drop k = true :: (a.bits ++ (b.bits ++ rest)) := by rw [h]; simp only [Sh.bits, List.cons_append, List.append_assoc]
  have hl := congrArg List.length h'
  simp only [List.length_drop, List.length_cons, List.length_append, Sh.len] at hl
  have hap := a.pos
  have hbp := b.pos
  obtain ⟨e1, e2⟩ := drop_at h'
  have e3 := drop_app e2
  rw [Sh.len] at e3
  rw [fixN_succ]
  show F_impl_treeOf_1_c0_step (fun p0 p1 => fixN stpTo f (p0, p1)) xs (k : Int) = _
  unfold F_impl_treeOf_1_c0_step
  rw [e1, bnd_some_eq, Bool.not_true, cond_false, w64_nat1 (by omega)]
  simp only
  rw [ha f (k + 1) _ (by omega) e2, bnd_some_eq]
  simp only
  rw [hb f (k + 1 + a.sz) _ (by omega) e3, bnd_some_eq]
  simp only
  rw [tr_pair a b (by omega), bnd_some_eq, tr_node]
  simp only [Sh.sz]
  congr 3
  omega
theorem mono_treeOf : Mono stpTo := by
 intro f g h a r
 refine (?_ : OLe _ _) r
 unfold stpTo F_impl_treeOf_1_c0_step
 have hr : ∀ x, OLe (f x) (g x) := fun x r => h x r
 repeat' first | with_reducible exact OLe.refl _ | with_reducible exact hr _ | with_reducible refine OLe.cond _ ?_ ?_ | with_reducible refine OLe.bnd ?_ (fun _ => ?_) | with_reducible refine OLe.elim _ (fun _ => ?_) (fun _ => ?_)
theorem tr_of (s : Sh) (h : s.sz ≤ 50000) : F_impl_treeOf s.bits = some s.tr := by
 have e := to_fix s.bits (by rw [s.len]; omega) s s.sz 0 [] (Nat.le_refl _) (by simp)
 have e' : F_impl_treeOf_1_c0 s.bits 0 = some (s.tr, ((0 + s.sz : Nat) : Int)) := (fixR_iff mono_treeOf).2 ⟨_, e⟩
 unfold F_impl_treeOf
 rw [e', bnd_some_eq]
theorem li_fix : ∀ (s : Sh) (f : Nat) (out : List Bool), s.sz ≤ f → out.length + s.sz ≤ 100000 →
  fixN stpLi f (s.tr, out) = some ((), out ++ s.bits) := by
 intro s
 induction s with
 | nl =>
  intro f out hf ho
  obtain ⟨f, rfl⟩ : ∃ g, f = g + 1 := ⟨f - 1, by simp only [Sh.sz] at hf; omega⟩
  rw [fixN_succ]
  show F_impl_tree_list_1_c1_step (fun p0 p1 => fixN stpLi f (p0, p1)) Tre.nil out = _
  unfold F_impl_tree_list_1_c1_step
  simp only [Sh.sz] at ho
  rw [app_ok (by simp; omega), bnd_some_eq]
  rfl
 | nd a b ha hb =>
  intro f out hf ho
  simp only [Sh.sz] at hf ho
  obtain ⟨f, rfl⟩ : ∃ g, f = g + 1 := ⟨f - 1, by omega⟩
  have hap := a.pos
  have hbp := b.pos
  rw [fixN_succ]
  show F_impl_tree_list_1_c1_step (fun p0 p1 => fixN stpLi f (p0, p1)) (Sh.nd a b).tr out = _
  unfold F_impl_tree_list_1_c1_step
  rw [app_ok (by simp; omega), bnd_some_eq, tr_isNil_nd, Bool.not_false, cond_true, tr_cells, bnd_some_eq]
  simp only
  rw [ha f _ (by omega) (by simp; omega), bnd_some_eq, bnd_some_eq]
  simp only
  rw [hb f _ (by omega) (by simp [Sh.len]; omega), bnd_some_eq]
  simp [Sh.bits]
theorem mono_list : Mono stpLi := by
 intro f g h a r
 refine (?_ : OLe _ _) r
 unfold stpLi F_impl_tree_list_1_c1_step
 have hr : ∀ x, OLe (f x) (g x) := fun x r => h x r
 repeat' first | with_reducible exact OLe.refl _ | with_reducible exact hr _ | with_reducible refine OLe.cond _ ?_ ?_ | with_reducible refine OLe.bnd ?_ (fun _ => ?_) | with_reducible refine OLe.elim _ (fun _ => ?_) (fun _ => ?_)
theorem tr_list (s : Sh) (h : s.sz ≤ 50000) : F_impl_tree_list s.tr = some s.bits := by
 have e' : F_impl_tree_list_1_c1 s.tr [] = some ((), [] ++ s.bits) := (fixR_iff mono_list).2 ⟨_, li_fix s s.sz [] (Nat.le_refl _) (by simp; omega)⟩
 unfold F_impl_tree_list
 rw [tr_nodes, bnd_some_eq, mke_nat (by omega), bnd_some_eq, e', bnd_some_eq, List.nil_append]
theorem tr_checked (s : Sh) (h : s.sz ≤ 2000) : F_impl_tree_checked s.tr = some (s.bits, 0) := by
 unfold F_impl_tree_checked
 rw [tr_nodes, bnd_some_eq, decide_eq_false (by omega), cond_false, tr_list s (by omega), bnd_some_eq]
theorem te_run (p2 : Bool → Option Int) (h2 : ∀ b, p2 b = some (if b then 2 else 0)) (xs : List Bool) (hx : xs.length ≤ 100000) : ∀ (s : Sh) (k o : Nat) (rest : List Bool), 1 ≤ o → o + s.sz ≤ 200000 → xs.drop k = s.bits ++ rest →
  run (F_impl_termEnd_bool_L1 xs p2) ((k : Int), (o : Int)) = run (F_impl_termEnd_bool_L1 xs p2) (((k + s.sz : Nat) : Int), ((o : Int) - 1)) := by
 intro s
 induction s with
 | nl =>
  intro k o rest ho hb h
  simp only [Sh.sz] at hb
  have hl := congrArg List.length h
  simp only [List.length_drop, Sh.bits, List.length_append, List.length_singleton] at hl
  obtain ⟨e1, e2⟩ := drop_at (c := false) (t := rest) h
  have hb : F_impl_termEnd_bool_L1 xs p2 ((k : Int), (o : Int)) = some (.inl (((k + 1 : Nat) : Int), (o : Int) - 1)) := by
   simp only [F_impl_termEnd_bool_L1]
   rw [decide_eq_true (by omega), cond_true, decide_eq_false (by omega), cond_false, e1, bnd_some_eq, h2, bnd_some_eq, w64_nat1 (by omega), if_neg (by decide), w64_in (n := 0 - 1) (by omega) (by omega), w64_in (by omega) (by omega)]
   rfl
  rw [run_next hb]
  rfl
 | nd a b ha hb =>
  intro k o rest ho hob h
  simp only [Sh.sz] at hob
  have h' : xs.drop k = true :: (a.bits ++ (b.bits ++ rest)) := by rw [h]; simp only [Sh.bits, List.cons_append, List.append_assoc]
  have hl := congrArg List.length h'
  simp only [List.length_drop, List.length_cons, List.length_append, Sh.len] at hl
  obtain ⟨e1, e2⟩ := drop_at h'
  have e3 := drop_app e2
  rw [Sh.len] at e3
  have hap := a.pos
  have hb0 : F_impl_termEnd_bool_L1 xs p2 ((k : Int), (o : Int)) = some (.inl (((k + 1 : Nat) : Int), ((o + 1 : Nat) : Int))) := by
   simp only [F_impl_termEnd_bool_L1]
   rw [decide_eq_true (by omega), cond_true, decide_eq_false (by omega), cond_false, e1, bnd_some_eq, h2, bnd_some_eq, w64_nat1 (by omega), if_pos rfl, w64_in (n := 2 - 1) (by omega) (by omega), w64_in (by omega) (by omega)]
   rfl
  rw [run_next hb0, ha (k + 1) (o + 1) _ (by omega) (by omega) e2, show ((o + 1 : Nat) : Int) - 1 = (o : Int) by omega, hb (k + 1 + a.sz) o _ ho (by omega) e3]
  simp only [Sh.sz]
  congr 3
  omega
theorem tr_is (s : Sh) (h : s.sz ≤ 2000) : F_impl_IsTree s.bits = some true := by
 have hp := s.pos
 have hl := s.len
 unfold F_impl_IsTree F_impl_size_bool F_impl_within
 rw [bnd_some_eq, decide_eq_true (by omega), cond_true, bnd_some_eq, decide_eq_true (by omega), cond_true]
 have e := te_run (fun x_ => F_impl_follows x_) (fun b => by cases b <;> rfl) s.bits (by omega) s 0 1 [] (Nat.le_refl _) (by omega) (by simp)
 have e0 : ((0 : Nat) : Int) = 0 := rfl
 have e1 : ((1 : Nat) : Int) = 1 := rfl
 rw [e0, e1] at e
 unfold F_impl_termEnd_bool
 rw [e, run_done (x := .brk (((0 + s.sz : Nat) : Int), (0 : Int))) (by simp only [F_impl_termEnd_bool_L1]; rfl), bnd_some_eq]
 simp only [Out.elim]
 rw [bnd_some_eq, hl]
 simp
noncomputable def stpEq : (Tre × Tre → Option Bool) → Tre × Tre → Option Bool := fun rec_ a_ => F_impl_tree_equal_step (fun p0 p1 => rec_ (p0, p1)) a_.1 a_.2
theorem mono_eq : Mono stpEq := by
 intro f g h a r
 refine (?_ : OLe _ _) r
 unfold stpEq F_impl_tree_equal_step
 have hr : ∀ x, OLe (f x) (g x) := fun x r => h x r
 repeat' first | with_reducible exact OLe.refl _ | with_reducible exact hr _ | with_reducible refine OLe.cond _ ?_ ?_ | with_reducible refine OLe.bnd ?_ (fun _ => ?_) | with_reducible refine OLe.elim _ (fun _ => ?_) (fun _ => ?_)
theorem eq_fix : ∀ (s u : Sh) (f : Nat), s.sz ≤ f → fixN stpEq f (s.tr, u.tr) = some (decide (s = u)) := by
 intro s
 induction s with
 | nl =>
  intro u f hf
  obtain ⟨f, rfl⟩ : ∃ g, f = g + 1 := ⟨f - 1, by simp only [Sh.sz] at hf; omega⟩
  cases u <;> rfl
 | nd a b ha hb =>
  intro u f hf
  simp only [Sh.sz] at hf
  obtain ⟨f, rfl⟩ : ∃ g, f = g + 1 := ⟨f - 1, by omega⟩
  cases u with
  | nl => rfl
  | nd c d =>
   have hap := a.pos
   have hbp := b.pos
   rw [fixN_succ]
   show F_impl_tree_equal_step (fun p0 p1 => fixN stpEq f (p0, p1)) (Sh.nd a b).tr (Sh.nd c d).tr = _
   unfold F_impl_tree_equal_step
   simp only [tr_isNil_nd, tr_cells, bnd_some_eq, Bool.and_self, cond_false]
   rw [ha c f (by omega)]
   by_cases h1 : a = c
   ·subst h1
    by_cases h2 : b = d
    ·subst h2
     rw [decide_eq_false (by simp), cond_false, bnd_some_eq]
     simp only [Out.elim]
     rw [bnd_some_eq, decide_true, cond_true, hb b f (by omega), bnd_some_eq, decide_eq_true rfl]
    ·rw [decide_eq_false (p := Sh.nd a b = Sh.nd a d) (by simp; exact h2)]
     by_cases hn : ((1 + a.sz + b.sz : Nat) : Int) ≠ ((1 + a.sz + d.sz : Nat) : Int)
     ·rw [decide_eq_true hn, cond_true, bnd_some_eq]
      rfl
     ·rw [decide_eq_false hn, cond_false, bnd_some_eq]
      simp only [Out.elim]
      rw [bnd_some_eq, decide_true, cond_true, hb d f (by omega), bnd_some_eq, decide_eq_false h2]
   ·rw [decide_eq_false (p := Sh.nd a b = Sh.nd c d) (by simp [h1])]
    by_cases hn : ((1 + a.sz + b.sz : Nat) : Int) ≠ ((1 + c.sz + d.sz : Nat) : Int)
    ·rw [decide_eq_true hn, cond_true, bnd_some_eq]
     rfl
    ·rw [decide_eq_false hn, cond_false, bnd_some_eq]
     simp only [Out.elim]
     rw [bnd_some_eq, decide_eq_false h1, cond_false]
theorem tr_equal (s u : Sh) : F_impl_tree_equal s.tr u.tr = some (decide (s = u)) := (fixR_iff mono_eq).2 ⟨_, eq_fix s u s.sz (Nat.le_refl _)⟩
end Go.Fn
