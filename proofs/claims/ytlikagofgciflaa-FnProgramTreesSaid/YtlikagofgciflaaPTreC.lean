/-
  Expressions of while programs: their elements, their codes, and back. No program in sight. No condition.
-/
import Derived.Test.YtlikagofgciflaaPTreB
import Derived.Test.YtlikagofgciflaaPPlain
namespace Go.Fn
open Go Go.Tc
theorem ex_concat (xs : List (List GExpr)) (hn : xs.length ≤ 1048576) (h : xs.flatten.length ≤ 1048576) : F_slices_Concat_Simpl_Expr_impl_Expr xs = some xs.flatten := by
 unfold F_slices_Concat_Simpl_Expr_impl_Expr
 have hdrop : ∀ (i : Nat) (hi : i < xs.length), (xs.drop i).flatten.length = xs[i].length + (xs.drop (i + 1)).flatten.length := fun i hi => by
  rw [List.drop_eq_getElem_cons hi, List.flatten_cons, List.length_append]
 obtain ⟨e1, e2⟩ := run_rowf (body := F_slices_Concat_Simpl_Expr_impl_Expr_L1 xs) xs (by omega) (fun (a : Int) i => (a, i)) (fun a x => a + (x.length : Int)) (fun i a => 0 ≤ a ∧ a + ((xs.drop i).flatten.length : Int) = (xs.flatten.length : Int)) (by
  rintro i hi a ⟨k0, k1⟩
  have := hdrop i hi
  have e : w64 (a + (xs[i].length : Int)) = a + (xs[i].length : Int) := w64_in (by omega) (by omega)
  refine ⟨?_, by omega, by omega⟩
  simp only [F_slices_Concat_Simpl_Expr_impl_Expr_L1, Int.ofNat_lt, hi, decide_true, cond_true, idx_nat hi, bnd_some_eq, e]
  rw [decide_eq_false (by omega), cond_false]) 0 ⟨by omega, by simp⟩
 rw [e1, run_done (x := .brk (xs.foldl (fun a x => a + (x.length : Int)) 0, (xs.length : Int))) (by simp [F_slices_Concat_Simpl_Expr_impl_Expr_L1])]
 rw [List.drop_length] at e2
 generalize xs.foldl (fun a x => a + (x.length : Int)) 0 = T at e2
 simp only [List.flatten_nil, List.length_nil] at e2
 simp only [bnd_some_eq, Out.elim]
 rw [decide_eq_false (by omega), cond_false, w64_00, w64_in (by omega) (by omega)]
 simp only [bnd_some_eq, Out.elim]
 have loop : ∀ (body : List GExpr × Int → Option ((List GExpr × Int) ⊕ Out (List GExpr × Int) (List GExpr))),
   (∀ (i : Nat) (hi : i < xs.length) (a : List GExpr), a.length + xs[i].length ≤ 1048576 → body (a, (i : Int)) = some (.inl (a ++ xs[i], w64 ((i : Int) + 1)))) →
   (∀ a, body (a, (xs.length : Int)) = some (.inr (.brk (a, (xs.length : Int))))) → run body ([], 0) = some (.brk (xs.flatten, (xs.length : Int))) := by
  intro body h1 h2
  have := (run_rowf (body := body) xs (by omega) (fun (a : List GExpr) i => (a, i)) (fun a x => a ++ x) (fun i a => a.length + (xs.drop i).flatten.length = xs.flatten.length) (by
   intro i hi a k
   have := hdrop i hi
   refine ⟨h1 i hi a (by omega), ?_⟩
   rw [List.length_append]; omega) [] (by simp)).1
  rw [foldl_flat, List.nil_append] at this
  rw [this, run_done (h2 _)]
 have l2 := loop (F_slices_Concat_Simpl_Expr_impl_Expr_L2 xs) (fun i hi a k => by
  simp only [F_slices_Concat_Simpl_Expr_impl_Expr_L2, Int.ofNat_lt, hi, decide_true, cond_true, idx_nat hi, bnd_some_eq]
  rw [app_ok (by omega), bnd_some_eq]) (fun a => by simp [F_slices_Concat_Simpl_Expr_impl_Expr_L2])
 have l3 := loop (F_slices_Concat_Simpl_Expr_impl_Expr_L3 xs) (fun i hi a k => by
  simp only [F_slices_Concat_Simpl_Expr_impl_Expr_L3, Int.ofNat_lt, hi, decide_true, cond_true, idx_nat hi, bnd_some_eq]
  rw [app_ok (by omega), bnd_some_eq]) (fun a => by simp [F_slices_Concat_Simpl_Expr_impl_Expr_L3])
 by_cases h0 : 0 < T - 0
 ·rw [decide_eq_true h0, cond_true]
  obtain ⟨n, hn⟩ : ∃ n : Nat, T - 0 = n := ⟨(T - 0).toNat, by omega⟩
  rw [hn, mke_nat (by omega), bnd_some_eq, slc_zero, bnd_some_eq, l2]
  rfl
 ·rw [decide_eq_false h0, cond_false, l3]
  rfl
inductive Ec where
 | nil
 | var
 | un (k : Bool) (a : Ec)
 | bin (k : Bool) (a b : Ec)
def ukind (k : Bool) : Int := if k then 4 else 3
def bkind (k : Bool) : Int := if k then 5 else 2
def umark (k : Bool) : Nat := if k then 5 else 4
def bmark (k : Bool) : Nat := if k then 6 else 3
def Ec.flat : Ec → List GExpr
 | .nil => [⟨0, 0⟩]
 | .var => [⟨1, 0⟩]
 | .un k a => ⟨ukind k, 0⟩ :: a.flat
 | .bin k a b => ⟨bkind k, 0⟩ :: (a.flat ++ b.flat)
def Ec.sz : Ec → Nat
 | .nil => 1
 | .var => 1
 | .un _ a => 1 + a.sz
 | .bin _ a b => 1 + a.sz + b.sz
theorem Ec.len (e : Ec) : e.flat.length = e.sz := by
 induction e with
 | nil => rfl
 | var => rfl
 | un k a ha => simp only [Ec.flat, Ec.sz, List.length_cons, ha]; omega
 | bin k a b ha hb => simp only [Ec.flat, Ec.sz, List.length_cons, List.length_append, ha, hb]; omega
theorem Ec.pos (e : Ec) : 1 ≤ e.sz := by cases e <;> simp only [Ec.sz] <;> omega
def Ec.code : Ec → Sh
 | .nil => .nd (tagS 0) .nl
 | .var => .nd (tagS 1) .nl
 | .un k a => .nd (tagS 2) (.nd (.nd (tagS (umark k)) .nl) (.nd a.code (.nd (tagS 0) .nl)))
 | .bin k a b => .nd (tagS 2) (.nd (.nd (tagS (bmark k)) .nl) (.nd a.code b.code))
theorem umark_lt (k : Bool) : umark k < 10 := by cases k <;> decide
theorem bmark_lt (k : Bool) : bmark k < 10 := by cases k <;> decide
theorem Ec.csz (e : Ec) : e.code.sz ≤ 25 * e.sz := by
 have h2 := tagS_sz 2 (by omega)
 have h0 : (tagS 0).sz = 1 := rfl
 have h2' : (tagS 2).sz = 5 := rfl
 induction e with
 | nil => decide
 | var => decide
 | un k a ha =>
  have := tagS_sz (umark k) (umark_lt k)
  simp only [Ec.code, Ec.sz, Sh.sz]
  omega
 | bin k a b ha hb =>
  have := tagS_sz (bmark k) (bmark_lt k)
  have h7 : (tagS (bmark k)).sz ≤ 7 := by cases k <;> decide
  simp only [Ec.code, Ec.sz, Sh.sz]
  omega
theorem follow_u (k : Bool) : F_impl_exprFollow ⟨ukind k, 0⟩ = some 1 := by cases k <;> rfl
theorem follow_b (k : Bool) : F_impl_exprFollow ⟨bkind k, 0⟩ = some 2 := by cases k <;> rfl
theorem te2_run (xs : List GExpr) (hx : xs.length ≤ 100000) : ∀ (e : Ec) (k o : Nat) (rest : List GExpr), 1 ≤ o → o + e.sz ≤ 200000 → xs.drop k = e.flat ++ rest →
  run (F_impl_termEnd_impl_Expr_L1 xs fun x_ => F_impl_exprFollow x_) ((k : Int), (o : Int)) = run (F_impl_termEnd_impl_Expr_L1 xs fun x_ => F_impl_exprFollow x_) (((k + e.sz : Nat) : Int), ((o : Int) - 1)) := by
 have one : ∀ (x : GExpr) (k o : Nat) (t : List GExpr) (n : Int), F_impl_exprFollow x = some n → 0 ≤ n ∧ n ≤ 2 → 1 ≤ o → o ≤ 200000 → xs.drop k = x :: t →
   run (F_impl_termEnd_impl_Expr_L1 xs fun x_ => F_impl_exprFollow x_) ((k : Int), (o : Int)) = run (F_impl_termEnd_impl_Expr_L1 xs fun x_ => F_impl_exprFollow x_) (((k + 1 : Nat) : Int), (o : Int) + (n - 1)) := by
  intro x k o t n hn h01 ho hob h
  have hl := congrArg List.length h
  simp only [List.length_drop, List.length_cons] at hl
  obtain ⟨e1, e2⟩ := drop_at h
  refine run_next ?_
  simp only [F_impl_termEnd_impl_Expr_L1]
  rw [decide_eq_true (by omega), cond_true, decide_eq_false (by omega), cond_false, e1, bnd_some_eq, hn, bnd_some_eq, w64_nat1 (by omega), w64_in (n := n - 1) (by omega) (by omega), w64_in (by omega) (by omega)]
 intro e
 induction e with
 | nil =>
  intro k o rest ho hob h
  rw [one ⟨0, 0⟩ k o rest 0 rfl (by omega) ho (by omega) h]
  congr 1
 | var =>
  intro k o rest ho hob h
  rw [one ⟨1, 0⟩ k o rest 0 rfl (by omega) ho (by omega) h]
  congr 1
 | un q a ha =>
  intro k o rest ho hob h
  simp only [Ec.sz] at hob
  have h' : xs.drop k = ⟨ukind q, 0⟩ :: (a.flat ++ rest) := by rw [h]; rfl
  obtain ⟨e1, e2⟩ := drop_at h'
  rw [one _ k o _ 1 (follow_u q) (by omega) ho (by omega) h', show (o : Int) + (1 - 1) = (o : Int) by omega, ha (k + 1) o rest ho (by omega) e2]
  simp only [Ec.sz]
  congr 3
  omega
 | bin q a b ha hb =>
  intro k o rest ho hob h
  simp only [Ec.sz] at hob
  have h' : xs.drop k = ⟨bkind q, 0⟩ :: (a.flat ++ (b.flat ++ rest)) := by rw [h]; simp only [Ec.flat, List.cons_append, List.append_assoc]
  obtain ⟨e1, e2⟩ := drop_at h'
  have e3 := drop_app e2
  rw [Ec.len] at e3
  rw [one _ k o _ 2 (follow_b q) (by omega) ho (by omega) h', show (o : Int) + (2 - 1) = ((o + 1 : Nat) : Int) by omega, ha (k + 1) (o + 1) _ (by omega) (by omega) e2, show ((o + 1 : Nat) : Int) - 1 = (o : Int) by omega, hb (k + 1 + a.sz) o rest ho (by omega) e3]
  simp only [Ec.sz]
  congr 3
  omega
theorem term_end (xs : List GExpr) (hx : xs.length ≤ 100000) (e : Ec) (k : Nat) (rest : List GExpr) (h : xs.drop k = e.flat ++ rest) : F_impl_termEnd_impl_Expr xs (k : Int) (fun x_ => F_impl_exprFollow x_) = some ((k + e.sz : Nat) : Int) := by
 have hl := congrArg List.length h
 simp only [List.length_drop, List.length_append, Ec.len] at hl
 unfold F_impl_termEnd_impl_Expr
 have e0 := te2_run xs hx e k 1 rest (Nat.le_refl _) (by omega) h
 rw [show ((1 : Nat) : Int) = 1 from rfl] at e0
 rw [e0, run_done (x := .brk (((k + e.sz : Nat) : Int), (0 : Int))) (by simp only [F_impl_termEnd_impl_Expr_L1]; rfl), bnd_some_eq]
 rfl
theorem slc_drop {α : Type} {xs : List α} {k : Nat} {a rest : List α} (ha : 1 ≤ a.length) (h : xs.drop k = a ++ rest) : slc xs (k : Int) ((k + a.length : Nat) : Int) = some a := by
 have hl := congrArg List.length h
 simp only [List.length_drop, List.length_append] at hl
 rw [slc_ok (by omega) (by omega), List.drop_take, h, Nat.add_sub_cancel_left, List.take_left]
theorem ops_loop (p0 : List GExpr) (hx : p0.length ≤ 100000) (r6 : Int) : ∀ (es : List Ec) (out : List (List GExpr)) (k i : Nat) (rest : List GExpr), (r6 = ((i + es.length : Nat) : Int)) → i + es.length ≤ 10 → out.length ≤ i → p0.drop k = (es.map Ec.flat).flatten ++ rest →
  ∃ s, run (F_impl_operands_L1 p0 r6) (out, (k : Int), (i : Int)) = some (.brk s) ∧ s.1 = out ++ es.map Ec.flat := by
 intro es
 induction es with
 | nil =>
  intro out k i rest hr hi ho h
  refine ⟨(out, (k : Int), (i : Int)), run_done ?_, by simp⟩
  simp only [F_impl_operands_L1]
  rw [decide_eq_false (by simp at hr; omega), cond_false]
 | cons e es ih =>
  intro out k i rest hr hi ho h
  simp only [List.length_cons] at hr hi
  simp only [List.map_cons, List.flatten_cons, List.append_assoc] at h
  have hs := slc_drop (by rw [Ec.len]; exact e.pos) h
  rw [Ec.len] at hs
  have hl := congrArg List.length h
  simp only [List.length_drop, List.length_append, Ec.len] at hl
  have e3 := drop_app h
  rw [Ec.len] at e3
  have hb : F_impl_operands_L1 p0 r6 (out, (k : Int), (i : Int)) = some (.inl (out ++ [e.flat], ((k + e.sz : Nat) : Int), ((i + 1 : Nat) : Int))) := by
   simp only [F_impl_operands_L1]
   rw [decide_eq_true (by omega), cond_true, term_end p0 hx e k _ h, bnd_some_eq, hs, bnd_some_eq, app_ok (by simp; omega), bnd_some_eq, w64_nat1 (by omega)]
  rw [run_next hb]
  obtain ⟨s, h1, h2⟩ := ih (out ++ [e.flat]) (k + e.sz) (i + 1) rest (by omega) (by omega) (by simp; omega) e3
  exact ⟨s, h1, by rw [h2]; simp⟩
theorem op_un (k : Bool) (a : Ec) (h : a.sz ≤ 1000) : F_impl_operands (⟨ukind k, 0⟩ :: a.flat) = some [a.flat] := by
 have hl := a.len
 unfold F_impl_operands
 rw [show idx ((⟨ukind k, 0⟩ : GExpr) :: a.flat) 0 = some ⟨ukind k, 0⟩ from rfl, bnd_some_eq, follow_u, bnd_some_eq]
 obtain ⟨s, h1, h2⟩ := ops_loop (⟨ukind k, 0⟩ :: a.flat) (by simp; omega) 1 [a] [] 1 0 [] rfl (by simp) (by simp) (by simp)
 rw [show ((1 : Nat) : Int) = 1 from rfl, show ((0 : Nat) : Int) = 0 from rfl] at h1
 rw [h1, bnd_some_eq]
 simp only [Out.elim, h2]
 rfl
theorem op_bin (k : Bool) (a b : Ec) (h : a.sz + b.sz ≤ 1000) : F_impl_operands (⟨bkind k, 0⟩ :: (a.flat ++ b.flat)) = some [a.flat, b.flat] := by
 have hl := a.len
 have hl2 := b.len
 unfold F_impl_operands
 rw [show idx ((⟨bkind k, 0⟩ : GExpr) :: (a.flat ++ b.flat)) 0 = some ⟨bkind k, 0⟩ from rfl, bnd_some_eq, follow_b, bnd_some_eq]
 obtain ⟨s, h1, h2⟩ := ops_loop (⟨bkind k, 0⟩ :: (a.flat ++ b.flat)) (by simp; omega) 2 [a, b] [] 1 0 [] rfl (by simp) (by simp) (by simp)
 rw [show ((1 : Nat) : Int) = 1 from rfl, show ((0 : Nat) : Int) = 0 from rfl] at h1
 rw [h1, bnd_some_eq]
 simp only [Out.elim, h2]
 rfl
theorem tr_pair0 (a : Sh) (h : a.sz ≤ 1099511627775) : F_impl_pair a.tr Tre.nil = some ((1 + a.sz + 1 : Nat) : Int) := tr_pair a .nl (by simp only [Sh.sz]; omega)
theorem tr_node0 (a : Sh) : Tre.node a.tr Tre.nil ((1 + a.sz + 1 : Nat) : Int) = (Sh.nd a .nl).tr := rfl
noncomputable def stpCo : (List GExpr → Option Tre) → List GExpr → Option Tre := fun rec_ a_ => F_impl_codeOfExpr_step (fun p0 => rec_ p0) a_
theorem mono_co : Mono stpCo := by
 intro f g h a r
 refine (?_ : OLe _ _) r
 unfold stpCo F_impl_codeOfExpr_step
 have hr : ∀ x, OLe (f x) (g x) := fun x r => h x r
 repeat' first | with_reducible exact OLe.refl _ | with_reducible exact hr _ | with_reducible refine OLe.cond _ ?_ ?_ | with_reducible refine OLe.bnd ?_ (fun _ => ?_) | with_reducible refine OLe.elim _ (fun _ => ?_) (fun _ => ?_)
theorem mkU_oc (k : Bool) : F_impl_markOf (ukind k) = some ((umark k : Nat) : Int) := by cases k <;> rfl
theorem mkB_oc (k : Bool) : F_impl_markOf (bkind k) = some ((bmark k : Nat) : Int) := by cases k <;> rfl
theorem tag0 : F_impl_tagTree 0 = some (tagS 0).tr := tag_tree (k := 0) (by omega)
theorem tag1 : F_impl_tagTree 1 = some (tagS 1).tr := tag_tree (k := 1) (by omega)
theorem tag2 : F_impl_tagTree 2 = some (tagS 2).tr := tag_tree (k := 2) (by omega)
theorem co_fix : ∀ (e : Ec) (f : Nat), e.sz + 1 ≤ f → e.sz ≤ 1000 → fixN stpCo f e.flat = some e.code.tr := by
 have hn : ∀ f, fixN stpCo (f + 1) [⟨0, 0⟩] = some Ec.nil.code.tr := fun f => by
  rw [fixN_succ]
  show F_impl_codeOfExpr_step (fun p0 => fixN stpCo f p0) [⟨0, 0⟩] = _
  unfold F_impl_codeOfExpr_step
  rw [show idx ([⟨0, 0⟩] : List GExpr) 0 = some ⟨0, 0⟩ from rfl, bnd_some_eq, decide_eq_true rfl, cond_true, tag0, bnd_some_eq, tr_pair0 _ (by decide), bnd_some_eq, tr_node0]
  rfl
 intro e
 induction e with
 | nil =>
  intro f hf _
  obtain ⟨f, rfl⟩ : ∃ g, f = g + 1 := ⟨f - 1, by omega⟩
  exact hn f
 | var =>
  intro f hf _
  obtain ⟨f, rfl⟩ : ∃ g, f = g + 1 := ⟨f - 1, by omega⟩
  rw [fixN_succ]
  show F_impl_codeOfExpr_step (fun p0 => fixN stpCo f p0) [⟨1, 0⟩] = _
  unfold F_impl_codeOfExpr_step
  rw [show idx ([⟨1, 0⟩] : List GExpr) 0 = some ⟨1, 0⟩ from rfl, bnd_some_eq, decide_eq_false (by decide), cond_false, decide_eq_true rfl, cond_true, tag1, bnd_some_eq, tr_pair0 _ (by decide), bnd_some_eq, tr_node0]
  rfl
 | un k a ha =>
  intro f hf hs
  simp only [Ec.sz] at hf hs
  have hap := a.pos
  have hac := a.csz
  obtain ⟨f, rfl⟩ : ∃ g, f = g + 1 + 1 := ⟨f - 2, by omega⟩
  have hm := tagS_sz _ (umark_lt k)
  rw [fixN_succ]
  show F_impl_codeOfExpr_step (fun p0 => fixN stpCo (f + 1) p0) (⟨ukind k, 0⟩ :: a.flat) = _
  unfold F_impl_codeOfExpr_step
  rw [show idx ((⟨ukind k, 0⟩ : GExpr) :: a.flat) 0 = some ⟨ukind k, 0⟩ from rfl, bnd_some_eq, decide_eq_false (by cases k <;> decide), cond_false, decide_eq_false (by cases k <;> decide), cond_false, op_un k a (by omega), bnd_some_eq, decide_eq_false (by simp), cond_false, bnd_some_eq]
  simp only [Out.elim]
  rw [bnd_some_eq, mkU_oc, bnd_some_eq, tag_tree (umark_lt k), bnd_some_eq, tr_pair0 _ (by omega), bnd_some_eq, show idx ([a.flat] : List (List GExpr)) 0 = some a.flat from rfl, bnd_some_eq, tag2, bnd_some_eq, ha (f + 1) (by omega) (by omega), bnd_some_eq, hn f, bnd_some_eq,
   tr_pair _ _ (by have : Ec.nil.code.sz = 3 := rfl; omega), bnd_some_eq, tr_node0, tr_node, tr_pair _ _ (by have : Ec.nil.code.sz = 3 := rfl; simp only [Sh.sz]; omega), bnd_some_eq, tr_node, tr_pair _ _ (by have : Ec.nil.code.sz = 3 := rfl; have : (tagS 2).sz = 5 := rfl; simp only [Sh.sz]; omega), bnd_some_eq, tr_node]
  rfl
 | bin k a b ha hb =>
  intro f hf hs
  simp only [Ec.sz] at hf hs
  have hap := a.pos
  have hac := a.csz
  have hbp := b.pos
  have hbc := b.csz
  obtain ⟨f, rfl⟩ : ∃ g, f = g + 1 := ⟨f - 1, by omega⟩
  have hm := tagS_sz _ (bmark_lt k)
  rw [fixN_succ]
  show F_impl_codeOfExpr_step (fun p0 => fixN stpCo f p0) (⟨bkind k, 0⟩ :: (a.flat ++ b.flat)) = _
  unfold F_impl_codeOfExpr_step
  rw [show idx ((⟨bkind k, 0⟩ : GExpr) :: (a.flat ++ b.flat)) 0 = some ⟨bkind k, 0⟩ from rfl, bnd_some_eq, decide_eq_false (by cases k <;> decide), cond_false, decide_eq_false (by cases k <;> decide), cond_false, op_bin k a b (by omega), bnd_some_eq, decide_eq_true (by simp), cond_true, show idx ([a.flat, b.flat] : List (List GExpr)) 1 = some b.flat from rfl, bnd_some_eq, bnd_some_eq]
  simp only [Out.elim]
  rw [bnd_some_eq, mkB_oc, bnd_some_eq, tag_tree (bmark_lt k), bnd_some_eq, tr_pair0 _ (by omega), bnd_some_eq, show idx ([a.flat, b.flat] : List (List GExpr)) 0 = some a.flat from rfl, bnd_some_eq, tag2, bnd_some_eq, ha f (by omega) (by omega), bnd_some_eq, hb f (by omega) (by omega), bnd_some_eq,
   tr_pair _ _ (by omega), bnd_some_eq, tr_node0, tr_node, tr_pair _ _ (by simp only [Sh.sz]; omega), bnd_some_eq, tr_node, tr_pair _ _ (by have : (tagS 2).sz = 5 := rfl; simp only [Sh.sz]; omega), bnd_some_eq, tr_node]
  rfl
theorem co_expr (e : Ec) (h : e.sz ≤ 1000) : F_impl_codeOfExpr e.flat = some e.code.tr := (fixR_iff mono_co).2 ⟨_, co_fix e (e.sz + 1) (Nat.le_refl _) h⟩
end Go.Fn
