/-
  While programs: their commands, their codes, and back. No program in sight. No condition.
-/
import Derived.Test.YtlikagofgciflaaPTreD
namespace Go.Fn
open Go Go.Tc
inductive Pg where
 | nil
 | set (e : Ec) (r : Pg)
 | loop (e : Ec) (b r : Pg)
def Pg.sz : Pg → Nat
 | .nil => 0
 | .set _ r => 1 + r.sz
 | .loop _ b r => 1 + b.sz + r.sz
def Pg.flat : Pg → List GCommand
 | .nil => []
 | .set e r => ⟨0, 0, 0, e.flat⟩ :: r.flat
 | .loop e b r => ⟨1, 0, (b.sz : Int), e.flat⟩ :: (b.flat ++ r.flat)
theorem Pg.len (p : Pg) : p.flat.length = p.sz := by
 induction p with
 | nil => rfl
 | set e r hr => simp only [Pg.flat, Pg.sz, List.length_cons, hr]; omega
 | loop e b r hb hr => simp only [Pg.flat, Pg.sz, List.length_cons, List.length_append, hb, hr]; omega
def Pg.ok : Pg → Prop
 | .nil => True
 | .set e r => e.sz ≤ 40 ∧ r.ok
 | .loop e b r => e.sz ≤ 40 ∧ b.ok ∧ r.ok
def listS : List Sh → Sh
 | [] => .nl
 | a :: r => .nd a (listS r)
def Pg.trs : Pg → List Sh
 | .nil => []
 | .set e r => .nd (tagS 7) e.code :: r.trs
 | .loop e b r => .nd (tagS 9) (.nd e.code (listS b.trs)) :: r.trs
def Pg.code (p : Pg) : Sh := listS p.trs
theorem Pg.csz (p : Pg) (h : p.ok) : p.code.sz ≤ 1 + 1100 * p.sz := by
 unfold Pg.code
 induction p with
 | nil => decide
 | set e r hr =>
  have h1 := e.csz
  have h2 := hr h.2
  have h3 := h.1
  have : (tagS 7).sz = 7 := rfl
  simp only [Pg.trs, Pg.sz, listS, Sh.sz]
  omega
 | loop e b r hb hr =>
  have h1 := e.csz
  have h2 := hr h.2.2
  have h3 := hb h.2.1
  have h4 := h.1
  have : (tagS 9).sz = 9 := rfl
  simp only [Pg.trs, Pg.sz, listS, Sh.sz]
  omega
theorem tol_run (l : List Sh) (hl : l.length ≤ 1000) (hs : (listS l).sz ≤ 1000000) : ∀ j, j ≤ l.length → (listS (l.drop j)).sz ≤ 1000000 →
  run (F_impl_treeOfList_L1 (l.map Sh.tr)) ((listS (l.drop j)).tr, ((j : Int) - 1)) = some (.brk ((listS l).tr, -1)) := by
 intro j
 induction j with
 | zero =>
  intro _ _
  rw [List.drop_zero]
  refine run_done ?_
  simp only [F_impl_treeOfList_L1]
  rw [decide_eq_false (by omega), cond_false]
  rfl
 | succ j ih =>
  intro hj hz
  have hlt : j < l.length := by omega
  have hd : listS (l.drop j) = .nd l[j] (listS (l.drop (j + 1))) := by rw [List.drop_eq_getElem_cons hlt]; rfl
  have hle : ∀ (l : List Sh) (k : Nat), (listS (l.drop k)).sz ≤ (listS l).sz := by
   intro l
   induction l with
   | nil => intro k; simp
   | cons a r ihr =>
    intro k
    cases k with
    | zero => simp
    | succ k =>
     have := ihr k
     simp only [List.drop_succ_cons, listS, Sh.sz]
     omega
  have hsz := hle l j
  have hsz' := hsz
  rw [hd] at hsz'
  simp only [Sh.sz] at hsz'
  have hb : F_impl_treeOfList_L1 (l.map Sh.tr) ((listS (l.drop (j + 1))).tr, (((j + 1 : Nat) : Int) - 1)) = some (.inl ((listS (l.drop j)).tr, ((j : Int) - 1))) := by
   simp only [F_impl_treeOfList_L1]
   rw [show ((j + 1 : Nat) : Int) - 1 = (j : Int) by omega, decide_eq_true (by omega), cond_true, idx_nat (by simpa using hlt), bnd_some_eq, List.getElem_map, tr_pair _ _ (by omega), bnd_some_eq, tr_node, w64_in (by omega) (by omega), hd]
  rw [run_next hb]
  exact ih (by omega) (by omega)
theorem tol (l : List Sh) (hl : l.length ≤ 1000) (hs : (listS l).sz ≤ 1000000) : F_impl_treeOfList (l.map Sh.tr) = some (listS l).tr := by
 unfold F_impl_treeOfList
 have h := tol_run l hl hs l.length (Nat.le_refl _) (by rw [List.drop_length]; decide)
 rw [List.drop_length] at h
 rw [List.length_map, w64_in (by omega) (by omega)]
 have h' : run (F_impl_treeOfList_L1 (l.map Sh.tr)) (Tre.nil, ((l.length : Int) - 1)) = _ := h
 rw [h', bnd_some_eq]
 rfl
theorem lot_run : ∀ (l : List Sh) (out : List Tre), out.length + l.length ≤ 100000 → run F_impl_listOfTree_L1 ((listS l).tr, out) = some (.brk (Tre.nil, out ++ l.map Sh.tr)) := by
 intro l
 induction l with
 | nil => intro out h; exact run_done (by rw [List.map_nil, List.append_nil]; rfl)
 | cons a r ih =>
  intro out h
  simp only [List.length_cons] at h
  have hb : F_impl_listOfTree_L1 ((listS (a :: r)).tr, out) = some (.inl ((listS r).tr, out ++ [a.tr])) := by
   simp only [F_impl_listOfTree_L1, listS]
   rw [tr_isNil_nd, Bool.not_false, cond_true, tr_cells, bnd_some_eq, app_ok (by simp; omega), bnd_some_eq, bnd_some_eq]
  rw [run_next hb, ih _ (by simp; omega)]
  simp
theorem lot (l : List Sh) (h : l.length ≤ 100000) : F_impl_listOfTree (listS l).tr = some (l.map Sh.tr) := by
 unfold F_impl_listOfTree
 rw [lot_run l [] (by simpa using h), bnd_some_eq]
 simp [Out.elim]
noncomputable def stpCw : (List GCommand → Option Tre) → List GCommand → Option Tre := fun rec_ a_ => F_impl_codeOfWhile_step (fun p0 => rec_ p0) a_
theorem mono_cw : Mono stpCw := by
 intro f g h a r
 refine (?_ : OLe _ _) r
 unfold stpCw F_impl_codeOfWhile_step F_impl_codeOfWhile_L1
 have hr : ∀ x, OLe (f x) (g x) := fun x r => h x r
 repeat' first | with_reducible exact OLe.refl _ | with_reducible exact hr _ | with_reducible refine OLe.run (fun _ => ?_) | with_reducible refine OLe.cond _ ?_ ?_ | with_reducible refine OLe.bnd ?_ (fun _ => ?_) | with_reducible refine OLe.elim _ (fun _ => ?_) (fun _ => ?_)
theorem tag7 : F_impl_tagTree 7 = some (tagS 7).tr := tag_tree (k := 7) (by omega)
theorem tag9 : F_impl_tagTree 9 = some (tagS 9).tr := tag_tree (k := 9) (by omega)
theorem slc_nil {α : Type} {xs : List α} {k : Nat} (h : k ≤ xs.length) : slc xs (k : Int) (k : Int) = some [] := by
 rw [slc_ok (Nat.le_refl _) h]
 simp
theorem cw_run (p0 : List GCommand) (hx : p0.length ≤ 1000) (rec_ : List GCommand → Option Tre) (N : Nat) (hrec : ∀ b : Pg, b.sz ≤ N → b.ok → rec_ b.flat = some b.code.tr) : ∀ (q : Pg) (k : Nat) (out : List Tre), q.sz ≤ N + 1 → q.ok → p0.drop k = q.flat → k ≤ p0.length → out.length ≤ k →
  run (F_impl_codeOfWhile_L1 p0 rec_) (out, (k : Int)) = some (.brk (out ++ q.trs.map Sh.tr, (p0.length : Int))) := by
 intro q
 induction q with
 | nil =>
  intro k out hq hok h hk ho
  have hl := congrArg List.length h
  simp only [List.length_drop, Pg.flat, List.length_nil] at hl
  obtain rfl : k = p0.length := by omega
  refine run_done ?_
  simp only [F_impl_codeOfWhile_L1]
  rw [decide_eq_false (by omega), cond_false]
  simp [Pg.trs]
 | set e r hr =>
  intro k out hq hok h hk ho
  simp only [Pg.sz] at hq
  obtain ⟨e1, e2⟩ := drop_at h
  have hl := congrArg List.length h
  simp only [List.length_drop, Pg.flat, List.length_cons] at hl
  have hec := e.csz
  have he := hok.1
  have hb : F_impl_codeOfWhile_L1 p0 rec_ (out, (k : Int)) = some (.inl (out ++ [(Sh.nd (tagS 7) e.code).tr], ((k + 1 : Nat) : Int))) := by
   have h7 : (tagS 7).sz = 7 := rfl
   simp only [F_impl_codeOfWhile_L1]
   rw [decide_eq_true (by omega), cond_true, e1, bnd_some_eq, w64_nat1 (by omega)]
   simp only
   rw [w64_in (n := ((k + 1 : Nat) : Int) + 0) (by omega) (by omega), show ((k + 1 : Nat) : Int) + 0 = ((k + 1 : Nat) : Int) by omega, slc_nil (by omega), bnd_some_eq, bnd_some_eq]
   simp only
   rw [co_expr e (by omega), bnd_some_eq, decide_eq_true trivial, cond_true, tag7, bnd_some_eq, tr_pair _ _ (by omega), bnd_some_eq, tr_node, app_ok (by simp; omega), bnd_some_eq]
   simp only [List.length_nil]
   rw [w64_in (n := (k : Int) + ((0 : Nat) : Int)) (by omega) (by omega), show (k : Int) + ((0 : Nat) : Int) = (k : Int) by omega, w64_nat1 (by omega)]
  rw [run_next hb, hr (k + 1) _ (by omega) hok.2 e2 (by omega) (by simp; omega)]
  simp [Pg.trs]
 | loop e b r hb' hr =>
  intro k out hq hok h hk ho
  simp only [Pg.sz] at hq
  have h' : p0.drop k = ⟨1, 0, (b.sz : Int), e.flat⟩ :: (b.flat ++ r.flat) := h
  obtain ⟨e1, e2⟩ := drop_at h'
  have e3 := drop_app e2
  rw [Pg.len] at e3
  have hl := congrArg List.length h'
  simp only [List.length_drop, List.length_cons, List.length_append, Pg.len] at hl
  have hec := e.csz
  have he := hok.1
  have hbc := b.csz hok.2.1
  have hsl : slc p0 ((k + 1 : Nat) : Int) ((k + 1 + b.sz : Nat) : Int) = some b.flat := by
   rw [slc_ok (by omega) (by omega), List.drop_take, e2, show k + 1 + b.sz - (k + 1) = b.flat.length by rw [Pg.len]; omega, List.take_left]
  have hb : F_impl_codeOfWhile_L1 p0 rec_ (out, (k : Int)) = some (.inl (out ++ [(Sh.nd (tagS 9) (.nd e.code b.code)).tr], ((k + 1 + b.sz : Nat) : Int))) := by
   have h9 : (tagS 9).sz = 9 := rfl
   simp only [F_impl_codeOfWhile_L1]
   rw [decide_eq_true (by omega), cond_true, e1, bnd_some_eq, w64_nat1 (by omega)]
   simp only
   rw [w64_in (n := ((k + 1 : Nat) : Int) + (b.sz : Int)) (by omega) (by omega), show ((k + 1 : Nat) : Int) + (b.sz : Int) = ((k + 1 + b.sz : Nat) : Int) by omega, hsl, bnd_some_eq, bnd_some_eq]
   simp only
   rw [co_expr e (by omega), bnd_some_eq, decide_eq_false (by decide), cond_false, tag9, bnd_some_eq, hrec b (by omega) hok.2.1, bnd_some_eq, tr_pair _ _ (by omega), bnd_some_eq, tr_node, tr_pair _ _ (by simp only [Sh.sz]; omega), bnd_some_eq, tr_node, app_ok (by simp; omega), bnd_some_eq, Pg.len, w64_in (n := (k : Int) + (b.sz : Int)) (by omega) (by omega), w64_in (by omega) (by omega)]
   congr 4
   omega
  rw [run_next hb, hr (k + 1 + b.sz) _ (by omega) hok.2.2 e3 (by omega) (by simp; omega)]
  simp [Pg.trs, Pg.code]
theorem trs_len (p : Pg) : p.trs.length ≤ p.sz := by
 induction p with
 | nil => simp [Pg.trs]
 | set e r hr => simp only [Pg.trs, Pg.sz, List.length_cons]; omega
 | loop e b r hb hr => simp only [Pg.trs, Pg.sz, List.length_cons]; omega
theorem cw_fix : ∀ (n : Nat) (p : Pg), p.sz ≤ n → p.sz ≤ 80 → p.ok → fixN stpCw (n + 1) p.flat = some p.code.tr := by
 intro n
 induction n with
 | zero =>
  intro p hp _ hok
  cases p with
  | nil =>
   rw [fixN_succ]
   show F_impl_codeOfWhile_step (fun p0 => fixN stpCw 0 p0) [] = _
   unfold F_impl_codeOfWhile_step
   rw [run_done (x := .brk (([] : List Tre), (0 : Int))) (by simp [F_impl_codeOfWhile_L1]), bnd_some_eq]
   simp only [Out.elim]
   rw [show ([] : List Tre) = ([] : List Sh).map Sh.tr from rfl, tol [] (by simp) (by decide), bnd_some_eq]
   rfl
  | set e r => simp only [Pg.sz] at hp; omega
  | loop e b r => simp only [Pg.sz] at hp; omega
 | succ n ih =>
  intro p hp h80 hok
  rw [fixN_succ]
  show F_impl_codeOfWhile_step (fun p0 => fixN stpCw (n + 1) p0) p.flat = _
  unfold F_impl_codeOfWhile_step
  have hl := p.len
  have hcs := p.csz hok
  have htl := trs_len p
  have hrec : ∀ b : Pg, b.sz ≤ min n 79 → b.ok → fixN stpCw (n + 1) b.flat = some b.code.tr := fun b hb hk => ih b (by omega) (by omega) hk
  have hrun := cw_run p.flat (by omega) (fun p0 => fixN stpCw (n + 1) p0) (min n 79) hrec p 0 [] (by omega) hok (by simp) (Nat.zero_le _) (by simp)
  rw [show ((0 : Nat) : Int) = 0 from rfl] at hrun
  rw [hrun, bnd_some_eq]
  simp only [Out.elim, List.nil_append]
  have hcs' : (listS p.trs).sz ≤ 1 + 1100 * p.sz := hcs
  rw [tol p.trs (by omega) (by omega), bnd_some_eq]
  rfl
theorem cw_prog (p : Pg) (h : p.sz ≤ 80) (hok : p.ok) : F_impl_codeOfWhile p.flat = some p.code.tr := (fixR_iff mono_cw).2 ⟨_, cw_fix p.sz p (Nat.le_refl _) h hok⟩
end Go.Fn
