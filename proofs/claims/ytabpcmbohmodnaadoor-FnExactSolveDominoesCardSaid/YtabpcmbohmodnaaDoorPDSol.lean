/-
  SolveDominoes: both searches go through the same rests in the same order. No program in sight. No condition.
-/
import Derived.Test.YtabpcmbohmodnaaDoorPKeys
import Derived.Test.YtabpcmbohmodnaaDoorPConf
import Derived.Test.YtabpcmbohmodnaaDoorLaw
namespace Go.Fn
open Go Go.Tc
theorem bnd_of {α β : Type} {m : Option α} {x : α} {k : α → Option β} (h : m = some x) : bnd m k = k x := by rw [h, bnd_some_eq]
/-! ### A domino put behind a rest -/
def topA (r : List Int × Bool) (d : GDomino) : List Int := if r.2 = true then r.1 ++ d.Top else d.Top
def botA (r : List Int × Bool) (d : GDomino) : List Int := if r.2 = true then d.Bottom else r.1 ++ d.Bottom
def putA (r : List Int × Bool) (d : GDomino) : Option (List Int × Bool) :=
  if (botA r d).take (topA r d).length = topA r d then some ((botA r d).drop (topA r d).length, false)
  else if (topA r d).take (botA r d).length = botA r d then some ((topA r d).drop (botA r d).length, true) else none
def putR : Option (List Int × Bool) → (List Int) × Bool × Int × Int × Bool
  | none => ([], false, 0, 0, false)
  | some x => (x.1, x.2, 0, 0, true)
theorem spec_put_eq (y : Gl32Rest) (d : GDomino) (hy : y.word.length ≤ 400) (h1 : d.Top.length ≤ 400) (h2 : d.Bottom.length ≤ 400) :
    (bnd (F_spec_l00Own d.Top) fun r238 => bnd (F_spec_l00Own d.Bottom) fun r242 => bnd ((cond y.upper (bnd (F_spec_l00Own y.word) fun r253 => bnd (app r253 d.Top) fun z257 => some (.brk (z257, r242))) (bnd (F_spec_l00Own y.word) fun r277 => bnd (app r277 d.Bottom) fun z281 => some (.brk (r238, z281)))) : Option (Out ((List Int) × (List Int)) (Option (Out ((List Int) × Bool × Int × Int × Bool) (Option (Bool)))))) (Out.elim (fun (s245 : (List Int) × (List Int)) => bnd (F_spec_l00Min (s245.1.length : Int) (s245.2.length : Int)) fun r297 => bnd (slc s245.1 0 r297) fun z299 => bnd (slc s245.2 0 r297) fun z302 => bnd (F_spec_l00Same z299 z302) fun r308 => (cond (!r308) (some (.brk (([] : (List Int)), false, 0, 0, false))) (cond (decide (r297 < (s245.1.length : Int))) (bnd (slc s245.1 r297 (s245.1.length : Int)) fun z313 => some (.brk (z313, true, 0, 0, true))) (bnd (slc s245.2 r297 (s245.2.length : Int)) fun z317 => some (.brk (z317, false, 0, 0, true)))))) (fun (r : Option (Out ((List Int) × Bool × Int × Int × Bool) (Option (Bool)))) => r))) = some (.brk (putR (putA (y.word, y.upper) d))) := by
  rw [spec_own' _ (by omega), bnd_some_eq, spec_own' _ (by omega), bnd_some_eq]
  have e : (cond y.upper (bnd (F_spec_l00Own y.word) fun r253 => bnd (app r253 d.Top) fun z257 => some (.brk (z257, d.Bottom))) (bnd (F_spec_l00Own y.word) fun r277 => bnd (app r277 d.Bottom) fun z281 => some (.brk (d.Top, z281))) : Option (Out ((List Int) × (List Int)) (Option (Out ((List Int) × Bool × Int × Int × Bool) (Option (Bool)))))) = some (.brk (topA (y.word, y.upper) d, botA (y.word, y.upper) d)) := by
    rw [spec_own' _ (by omega)]
    unfold topA botA
    cases y.upper
    · rw [cond_false, bnd_some_eq, app_ok (by omega), bnd_some_eq, if_neg (by simp), if_neg (by simp)]
    · rw [cond_true, bnd_some_eq, app_ok (by omega), bnd_some_eq, if_pos rfl, if_pos rfl]
  have l1 : (topA (y.word, y.upper) d).length ≤ 800 := by
    unfold topA
    split
    · rw [List.length_append]; simp only; omega
    · omega
  have l2 : (botA (y.word, y.upper) d).length ≤ 800 := by
    unfold botA
    split
    · omega
    · rw [List.length_append]; simp only; omega
  rw [e, bnd_some_eq]
  unfold putA
  generalize topA (y.word, y.upper) d = t at l1
  generalize botA (y.word, y.upper) d = b at l2
  simp only [Out.elim]
  unfold F_spec_l00Min
  by_cases hlt : t.length < b.length
  · rw [decide_eq_true (by omega : (t.length : Int) < (b.length : Int)), cond_true, bnd_some_eq, slc0 (Nat.le_refl _), bnd_some_eq, slc0 (by omega), bnd_some_eq, List.take_length, spec_same _ _ (by omega), bnd_some_eq]
    by_cases he : b.take t.length = t
    · rw [decide_eq_true he.symm, Bool.not_true, cond_false, decide_eq_false (Int.lt_irrefl _), cond_false, slc_from (by omega), bnd_some_eq, if_pos he]
      rfl
    · rw [decide_eq_false (fun h => he h.symm), Bool.not_false, cond_true, if_neg he, if_neg (fun h => by
        have := congrArg List.length h
        rw [List.length_take] at this
        omega)]
      rfl
  · rw [decide_eq_false (by omega : ¬ (t.length : Int) < (b.length : Int)), cond_false, bnd_some_eq, slc0 (by omega), bnd_some_eq, slc0 (Nat.le_refl _), bnd_some_eq, List.take_length, spec_same _ _ (by rw [List.length_take]; omega), bnd_some_eq]
    rw [show b.take t.length = b from List.take_of_length_le (by omega)]
    by_cases he : t.take b.length = b
    · rw [decide_eq_true he, Bool.not_true, cond_false]
      by_cases hbt : b.length < t.length
      · rw [decide_eq_true (by omega), cond_true, slc_from (by omega), bnd_some_eq, if_neg (fun h => by rw [h] at hbt; omega), if_pos he]
        rfl
      · have hbt' : b = t := by
          rw [← he]
          exact List.take_of_length_le (by omega)
        rw [decide_eq_false (by omega), cond_false, slc_from (Nat.le_refl _), bnd_some_eq, if_pos hbt', hbt']
        rfl
    · rw [decide_eq_false he, Bool.not_false, cond_true, if_neg (fun h => he (by rw [h]; exact List.take_length)), if_neg he]
      rfl
def putI : Option (List Int × Bool) → Grest × Bool
  | none => (⟨false, [], 0, 0⟩, false)
  | some x => (⟨x.2, x.1, 0, 0⟩, true)
theorem impl_put_eq (y : Grest) (d : GDomino) (hy : y.word.length ≤ 400) (h1 : d.Top.length ≤ 400) (h2 : d.Bottom.length ≤ 400) : F_impl_rest_put y d = some (putI (putA (y.word, y.top) d)) := by
  unfold F_impl_rest_put
  have e : (cond y.top (bnd (F_impl_joined ([y.word, d.Top] : List (List Int))) fun r8 => some (.brk (r8, d.Bottom))) (bnd (F_impl_joined ([y.word, d.Bottom] : List (List Int))) fun r12 => some (.brk (d.Top, r12))) : Option (Out ((List Int) × (List Int)) (Grest × Bool))) = some (.brk (topA (y.word, y.top) d, botA (y.word, y.top) d)) := by
    unfold topA botA
    cases y.top
    · rw [cond_false, impl_joined _ (by simp) (by simp; omega), bnd_some_eq, if_neg (by simp), if_neg (by simp)]
      simp
    · rw [cond_true, impl_joined _ (by simp) (by simp; omega), bnd_some_eq, if_pos rfl, if_pos rfl]
      simp
  have l1 : (topA (y.word, y.top) d).length ≤ 800 := by
    unfold topA
    split
    · rw [List.length_append]; simp only; omega
    · omega
  have l2 : (botA (y.word, y.top) d).length ≤ 800 := by
    unfold botA
    split
    · omega
    · rw [List.length_append]; simp only; omega
  rw [e, bnd_some_eq]
  unfold putA
  generalize topA (y.word, y.top) d = t at l1
  generalize botA (y.word, y.top) d = b at l2
  simp only [Out.elim]
  rw [impl_begins _ _ (by omega), bnd_some_eq]
  by_cases h : b.take t.length = t
  · have hl : t.length ≤ b.length := by
      have := congrArg List.length h
      rw [List.length_take] at this
      omega
    rw [decide_eq_true h, cond_true, slc_from hl, bnd_some_eq, if_pos h]
    rfl
  · rw [decide_eq_false h, cond_false, impl_begins _ _ (by omega), bnd_some_eq, if_neg h]
    by_cases h' : t.take b.length = b
    · have hl : b.length ≤ t.length := by
        have := congrArg List.length h'
        rw [List.length_take] at this
        omega
      rw [decide_eq_true h', cond_true, slc_from hl, bnd_some_eq, if_pos h']
      rfl
    · rw [decide_eq_false h', cond_false, if_neg h']
      rfl
def Let9 (w : List Int) : Prop := ∀ x ∈ w, 0 ≤ x ∧ x ≤ 9
theorem Let9.app {v w : List Int} (h : Let9 v) (k : Let9 w) : Let9 (v ++ w) := fun x hx => (List.mem_append.1 hx).elim (h x) (k x)
theorem Let9.drop {w : List Int} (h : Let9 w) (n : Nat) : Let9 (w.drop n) := fun x hx => h x (List.mem_of_mem_drop hx)
theorem Let9.of {w : List Int} (h : wordB w = true) : Let9 w := by
  unfold wordB at h
  simp only [Bool.and_eq_true] at h
  exact fun x hx => inB_iff'.1 (List.all_eq_true.1 h.2 x hx)
theorem putA_let {r : List Int × Bool} {d : GDomino} (hr : Let9 r.1) (h1 : Let9 d.Top) (h2 : Let9 d.Bottom) {x : List Int × Bool} (h : putA r d = some x) : Let9 x.1 := by
  have ht : Let9 (topA r d) := by
    unfold topA
    split
    · exact hr.app h1
    · exact h1
  have hb : Let9 (botA r d) := by
    unfold botA
    split
    · exact h2
    · exact hr.app h2
  unfold putA at h
  split at h
  · obtain rfl := Option.some.inj h
    exact hb.drop _
  · split at h
    · obtain rfl := Option.some.inj h
      exact ht.drop _
    · cases h
/-! ### Keys -/
def keyR (u : Bool) (w : List Int) : ByteArray := (if u = true then (⟨#[116]⟩ : ByteArray) else ⟨#[98]⟩) ++ keyW w
theorem keyW_size (w : List Int) : (keyW w).size = w.length := by
  unfold keyW strOf
  simp [ByteArray.size]
theorem impl_rkey (r : Grest) (h : r.word.length ≤ 400) : F_impl_rest_key r = some (keyR r.top r.word) := by
  have hs := keyW_size r.word
  unfold F_impl_rest_key keyR
  rw [impl_key _ (by omega), bnd_some_eq, bnd_some_eq]
  have c1 : cat (⟨#[116]⟩ : ByteArray) (keyW r.word) = some (⟨#[116]⟩ ++ keyW r.word) := by
    unfold cat
    rw [if_pos (by show 1 + _ ≤ _; omega)]
  have c2 : cat (⟨#[98]⟩ : ByteArray) (keyW r.word) = some (⟨#[98]⟩ ++ keyW r.word) := by
    unfold cat
    rw [if_pos (by show 1 + _ ≤ _; omega)]
  rw [c1, c2]
  cases r.top <;> rfl
theorem keyR_inj {u v : Bool} {a b : List Int} (ha : Let9 a) (hb : Let9 b) (h : keyR u a = keyR v b) : u = v ∧ a = b := by
  have hd := congrArg (fun x : ByteArray => x.data.toList) h
  unfold keyR at hd
  simp only [ByteArray.data_append, Array.toList_append] at hd
  cases u <;> cases v
  · simp only [Bool.false_eq_true, if_false, List.cons_append, List.nil_append, List.cons.injEq, true_and] at hd
    refine ⟨rfl, keyW_inj ha hb ?_⟩
    cases hk : keyW a with
    | mk x =>
      cases hl : keyW b with
      | mk y =>
        rw [hk, hl] at hd
        congr 1
        exact Array.toList_inj.1 (by simpa using hd)
  · simp at hd
  · simp at hd
  · simp only [if_true, List.cons_append, List.nil_append, List.cons.injEq, true_and] at hd
    refine ⟨rfl, keyW_inj ha hb ?_⟩
    cases hk : keyW a with
    | mk x =>
      cases hl : keyW b with
      | mk y =>
        rw [hk, hl] at hd
        congr 1
        exact Array.toList_inj.1 (by simpa using hd)
/-! ### The search, in the plain -/
def rootS : Gl32Rest := ⟨[], false, -1, -1⟩
def rootI : Grest := ⟨false, [], 0, -1⟩
def conv (r : Gl32Rest) : Grest := ⟨r.upper, r.word, r.domino, r.before⟩
def sameR (w : List Int) (u : Bool) (t : Gl32Rest) : Bool := decide (t.upper = u) && decide (t.word = w)
def zRest : Gl32Rest := rootS
def pth (fs : List Gl32Rest) : Nat → Int → Int → List Int
  | 0, _, _ => []
  | n + 1, b, d => if 0 ≤ b then pth fs n (fs.getD b.toNat zRest).before (fs.getD b.toNat zRest).domino ++ [d] else []
theorem pth_succ (fs : List Gl32Rest) (n : Nat) (b d : Int) : pth fs (n + 1) b d = if 0 ≤ b then pth fs n (fs.getD b.toNat zRest).before (fs.getD b.toNat zRest).domino ++ [d] else [] := rfl
abbrev StD := List Gl32Rest × Bool
def stepO (ds : List GDomino) (k i : Nat) (s : StD) : StD ⊕ (List Int × Int) :=
  match putA (((rootS :: s.1).getD k zRest).word, ((rootS :: s.1).getD k zRest).upper) (ds.getD i ⟨[], []⟩) with
  | none => .inl s
  | some x => if x.1 = [] then .inr (pth (rootS :: s.1) (s.1.length + 2) k i, 0) else if 400 < x.1.length then .inl (s.1, false)
    else if s.1.any (sameR x.1 x.2) = true then .inl s else if 299 ≤ s.1.length then .inr ([], 5) else .inl (s.1 ++ [⟨x.1, x.2, (k : Int), (i : Int)⟩], s.2)
def innerO (ds : List GDomino) (k : Nat) : List Nat → StD → StD ⊕ (List Int × Int)
  | [], s => .inl s
  | i :: l, s => match stepO ds k i s with
    | .inl s' => innerO ds k l s'
    | .inr r => .inr r
def skB (k i : Nat) (first : Int) : Bool := decide (k = 0) && (decide (0 ≤ first) && decide ((i : Int) ≠ first))
def idxs (k : Nat) (first : Int) (n : Nat) : List Nat := (List.range n).filter fun i => !skB k i first
def outerO (ds : List GDomino) (first budget : Int) : Nat → Nat → StD → List Int × Int
  | 0, _, _ => ([], 0)
  | n + 1, k, s => if k < s.1.length + 1 then (if (k : Int) = budget then ([], 5) else match innerO ds k (idxs k first ds.length) s with
      | .inl s' => outerO ds first budget n (k + 1) s'
      | .inr r => r)
    else if s.2 = true then ([], 3) else ([], 5)
structure InvD (L : List Gl32Rest) : Prop where
  len : L.length ≤ 299
  ne : ∀ t ∈ L, t.word ≠ []
  el : ∀ (j : Nat) (h : j < L.length), Let9 L[j].word ∧ L[j].word.length ≤ 400 ∧ 0 ≤ L[j].before ∧ L[j].before ≤ j
theorem InvD.nil : InvD [] := ⟨by simp, fun t h => by simp at h, fun j h => by simp at h⟩
theorem InvD.at {L : List Gl32Rest} (h : InvD L) (k : Nat) : Let9 ((rootS :: L).getD k zRest).word ∧ ((rootS :: L).getD k zRest).word.length ≤ 400 ∧ -1 ≤ ((rootS :: L).getD k zRest).before ∧ ((rootS :: L).getD k zRest).before < k := by
  cases k with
  | zero =>
    refine ⟨(fun x hx => by cases hx), by show 0 ≤ 400; omega, by show (-1 : Int) ≤ -1; omega, by show (-1 : Int) < 0; omega⟩
  | succ k =>
    rw [List.getD_cons_succ]
    by_cases hk : k < L.length
    · rw [List.getD_eq_getElem?_getD, List.getElem?_eq_getElem hk, Option.getD_some]
      obtain ⟨a, b, c, d⟩ := h.el k hk
      exact ⟨a, b, by omega, by omega⟩
    · rw [List.getD_eq_getElem?_getD, List.getElem?_eq_none (by omega), Option.getD_none]
      refine ⟨(fun x hx => by cases hx), by show 0 ≤ 400; omega, by show (-1 : Int) ≤ -1; omega, ?_⟩
      show (-1 : Int) < _
      omega
theorem InvD.add {L : List Gl32Rest} (h : InvD L) {w : List Int} {u : Bool} {k i : Nat} (hw : Let9 w) (h0 : w ≠ []) (hl : w.length ≤ 400) (hk : k ≤ L.length) (hL : L.length < 299) : InvD (L ++ [⟨w, u, (k : Int), (i : Int)⟩]) := by
  refine ⟨by rw [List.length_append, List.length_singleton]; omega, fun t ht => ?_, fun j hj => ?_⟩
  · rcases List.mem_append.1 ht with ht | ht
    · exact h.ne t ht
    · rw [List.mem_singleton.1 ht]
      exact h0
  rw [List.length_append, List.length_singleton] at hj
  by_cases e : j < L.length
  · rw [List.getElem_append_left e]
    exact h.el j e
  · have e' : j = L.length := by omega
    subst e'
    rw [List.getElem_append_right (Nat.le_refl _)]
    simp only [Nat.sub_self, List.getElem_cons_zero]
    exact ⟨hw, hl, by omega, by omega⟩
structure DsOk (ds : List GDomino) : Prop where
  n : ds.length ≤ 80
  el : ∀ d ∈ ds, (Let9 d.Top ∧ Let9 d.Bottom) ∧ d.Top.length ≤ 400 ∧ d.Bottom.length ≤ 400
theorem stepO_inv {ds : List GDomino} (hD : DsOk ds) {k i : Nat} (hi : i < ds.length) {s s' : StD} (h : InvD s.1) (hk : k ≤ s.1.length) (e : stepO ds k i s = .inl s') : InvD s'.1 ∧ s.1.length ≤ s'.1.length := by
  have hd := hD.el ds[i] (List.getElem_mem hi)
  have hg : ds.getD i ⟨[], []⟩ = ds[i] := by rw [List.getD_eq_getElem?_getD, List.getElem?_eq_getElem hi]; rfl
  unfold stepO at e
  rw [hg] at e
  cases hp : putA (((rootS :: s.1).getD k zRest).word, ((rootS :: s.1).getD k zRest).upper) ds[i] with
  | none =>
    rw [hp] at e
    simp only [Sum.inl.injEq] at e
    subst e
    exact ⟨h, Nat.le_refl _⟩
  | some x =>
    rw [hp] at e
    simp only at e
    have hx := putA_let (h.at k).1 hd.1.1 hd.1.2 hp
    split at e
    · cases e
    · rename_i hne
      split at e
      · simp only [Sum.inl.injEq] at e
        subst e
        exact ⟨h, Nat.le_refl _⟩
      · split at e
        · simp only [Sum.inl.injEq] at e
          subst e
          exact ⟨h, Nat.le_refl _⟩
        · split at e
          · cases e
          · simp only [Sum.inl.injEq] at e
            subst e
            exact ⟨h.add hx hne (by omega) hk (by omega), by simp⟩
theorem innerO_inv {ds : List GDomino} (hD : DsOk ds) {k : Nat} : ∀ (l : List Nat) (s s' : StD), (∀ i ∈ l, i < ds.length) → InvD s.1 → k ≤ s.1.length → innerO ds k l s = .inl s' → InvD s'.1 ∧ s.1.length ≤ s'.1.length
  | [], s, s', _, h, _, e => by
    unfold innerO at e
    simp only [Sum.inl.injEq] at e
    subst e
    exact ⟨h, Nat.le_refl _⟩
  | i :: l, s, s', hl, h, hk, e => by
    unfold innerO at e
    cases hs : stepO ds k i s with
    | inr r => rw [hs] at e; cases e
    | inl s1 =>
      rw [hs] at e
      simp only at e
      obtain ⟨h1, h2⟩ := stepO_inv hD (hl i (List.mem_cons_self ..)) h hk hs
      obtain ⟨h3, h4⟩ := innerO_inv hD l s1 s' (fun j hj => hl j (List.mem_cons_of_mem _ hj)) h1 (by omega) e
      exact ⟨h3, by omega⟩
/-! ### Paths -/
theorem pth_len (fs : List Gl32Rest) : ∀ (n : Nat) (b d : Int), (pth fs n b d).length ≤ n
  | 0, _, _ => Nat.le_refl _
  | n + 1, b, d => by
    unfold pth
    split
    · rw [List.length_append, List.length_singleton]
      have := pth_len fs n (fs.getD b.toNat zRest).before (fs.getD b.toNat zRest).domino
      omega
    · exact Nat.zero_le _
theorem getD_app {L : List Gl32Rest} {x : Gl32Rest} {b : Nat} (h : b < L.length + 1) : (rootS :: (L ++ [x])).getD b zRest = (rootS :: L).getD b zRest := by
  rw [← List.cons_append, List.getD_eq_getElem?_getD, List.getD_eq_getElem?_getD, List.getElem?_append_left (by simpa using h)]
theorem pth_app {L : List Gl32Rest} (h : InvD L) (x : Gl32Rest) : ∀ (n : Nat) (b d : Int), b < L.length + 1 → pth (rootS :: (L ++ [x])) n b d = pth (rootS :: L) n b d
  | 0, _, _, _ => rfl
  | n + 1, b, d, hb => by
    rw [pth_succ, pth_succ]
    by_cases h0 : 0 ≤ b
    · rw [if_pos h0, if_pos h0, getD_app (by omega)]
      have := (h.at b.toNat).2.2.2
      rw [pth_app h x n _ _ (by omega)]
    · rw [if_neg h0, if_neg h0]
theorem getD_idx {L : List Gl32Rest} {k : Nat} (hk : k < L.length + 1) : idx (rootS :: L) (k : Int) = some ((rootS :: L).getD k zRest) := by
  have hk' : k < (rootS :: L).length := by simpa using hk
  rw [idx_nat hk', List.getD_eq_getElem?_getD, List.getElem?_eq_getElem hk']
  rfl
theorem back_runDS {L : List Gl32Rest} (h : InvD L) : ∀ (n : Nat) (b d : Int) (out w : List Int) (u : Bool), b < n → b < L.length + 1 → out.length + n ≤ 1000 →
    ∃ w' u' b' d', run (F_spec_l32Back_L1 (rootS :: L)) (out, w, u, b, d) = some (.brk (pth (rootS :: L) n b d ++ out, w', u', b', d')) := by
  intro n
  induction n with
  | zero =>
    intro b d out w u hb _ _
    refine ⟨w, u, b, d, run_done ?_⟩
    simp only [F_spec_l32Back_L1]
    rw [decide_eq_false (by omega), cond_false]
    rfl
  | succ n ih =>
    intro b d out w u hb hbl ho
    by_cases h0 : 0 ≤ b
    · have hi := getD_idx (L := L) (k := b.toNat) (by omega)
      rw [show ((b.toNat : Nat) : Int) = b by omega] at hi
      have hlt := (h.at b.toNat).2.2.2
      have hb1 : F_spec_l32Back_L1 (rootS :: L) (out, w, u, b, d) = some (.inl (d :: out, ((rootS :: L).getD b.toNat zRest).word, ((rootS :: L).getD b.toNat zRest).upper, ((rootS :: L).getD b.toNat zRest).before, ((rootS :: L).getD b.toNat zRest).domino)) := by
        simp only [F_spec_l32Back_L1]
        rw [decide_eq_true h0, cond_true, app_ok (by rw [List.length_singleton]; omega), bnd_some_eq, hi, bnd_some_eq]
        rfl
      rw [run_next hb1]
      obtain ⟨w', u', b', d', e⟩ := ih ((rootS :: L).getD b.toNat zRest).before ((rootS :: L).getD b.toNat zRest).domino (d :: out) ((rootS :: L).getD b.toNat zRest).word ((rootS :: L).getD b.toNat zRest).upper (by omega) (by omega) (by rw [List.length_cons]; omega)
      refine ⟨w', u', b', d', ?_⟩
      rw [e]
      rw [pth_succ, if_pos h0, List.append_assoc]
      rfl
    · refine ⟨w, u, b, d, run_done ?_⟩
      simp only [F_spec_l32Back_L1]
      rw [decide_eq_false h0, cond_false]
      rw [pth_succ, if_neg h0]
      rfl
theorem spec_backDS {L : List Gl32Rest} (h : InvD L) (w : List Int) (u : Bool) {k i : Nat} (hk : k < L.length + 1) : F_spec_l32Back (rootS :: L) ⟨w, u, (k : Int), (i : Int)⟩ = some (pth (rootS :: L) (L.length + 2) k i, 0) := by
  have hl := h.len
  unfold F_spec_l32Back
  obtain ⟨w', u', b', d', e⟩ := back_runDS h (L.length + 2) k i [] w u (by omega) (by omega) (by simp; omega)
  rw [List.append_nil] at e
  simp only
  rw [e, bnd_some_eq]
  simp only [Out.elim]
  have := pth_len (rootS :: L) (L.length + 2) (k : Int) (i : Int)
  rw [decide_eq_false (by omega), cond_false]
theorem rs_idx {L : List Gl32Rest} {k : Nat} (hk : k < L.length + 1) : ∃ r, idx (rootI :: L.map conv) (k : Int) = some r ∧ r.word = ((rootS :: L).getD k zRest).word ∧ r.top = ((rootS :: L).getD k zRest).upper ∧ r.parent = ((rootS :: L).getD k zRest).before ∧ (0 < k → r.domino = ((rootS :: L).getD k zRest).domino) := by
  have hk' : k < (rootI :: L.map conv).length := by simpa using hk
  rw [idx_nat hk']
  refine ⟨_, rfl, ?_⟩
  cases k with
  | zero => exact ⟨rfl, rfl, rfl, fun h => absurd h (Nat.lt_irrefl _)⟩
  | succ k =>
    have hk2 : k < L.length := by omega
    simp only [List.getElem_cons_succ, List.getElem_map, List.getD_cons_succ]
    rw [List.getD_eq_getElem?_getD, List.getElem?_eq_getElem hk2, Option.getD_some]
    exact ⟨rfl, rfl, rfl, fun _ => rfl⟩
def BefOk (L : List Gl32Rest) : Prop := ∀ k : Nat, -1 ≤ ((rootS :: L).getD k zRest).before ∧ ((rootS :: L).getD k zRest).before < k
theorem InvD.bef {L : List Gl32Rest} (h : InvD L) (w : List Int) (u : Bool) {k i : Nat} (hk : k ≤ L.length) : BefOk (L ++ [⟨w, u, (k : Int), (i : Int)⟩]) := by
  intro j
  by_cases hj : j < L.length + 1
  · rw [getD_app hj]
    exact (h.at j).2.2
  · by_cases e : j = L.length + 1
    · subst e
      rw [List.getD_cons_succ, List.getD_eq_getElem?_getD, List.getElem?_append_right (Nat.le_refl _), Nat.sub_self]
      simp only [List.getElem?_cons_zero, Option.getD_some]
      omega
    · have hz : (rootS :: (L ++ [⟨w, u, (k : Int), (i : Int)⟩])).getD j zRest = zRest := by
        rw [List.getD_eq_getElem?_getD, List.getElem?_eq_none (by simp; omega), Option.getD_none]
      rw [hz]
      show -1 ≤ (-1 : Int) ∧ (-1 : Int) < j
      omega
theorem mat_runDS {L : List Gl32Rest} (h : BefOk L) : ∀ (n k : Nat) (acc : List Int), k < n → k < L.length + 1 → acc.length + n ≤ 1000 →
    ∃ k', run (F_impl_SolveDominoes_L4 (rootI :: L.map conv)) (acc, (k : Int)) = some (.brk (acc ++ (pth (rootS :: L) n ((rootS :: L).getD k zRest).before ((rootS :: L).getD k zRest).domino).reverse, k')) := by
  intro n
  induction n with
  | zero => intro k acc h0; omega
  | succ n ih =>
    intro k acc hk hkl ha
    obtain ⟨r, e, _, _, hp, hd⟩ := rs_idx hkl
    obtain ⟨g1, g2⟩ := h k
    rw [pth_succ]
    by_cases h0 : 0 ≤ ((rootS :: L).getD k zRest).before
    · have hk0 : 0 < k := by omega
      have hb : F_impl_SolveDominoes_L4 (rootI :: L.map conv) (acc, (k : Int)) = some (.inl (acc ++ [((rootS :: L).getD k zRest).domino], ((rootS :: L).getD k zRest).before)) := by
        simp only [F_impl_SolveDominoes_L4]
        rw [e]
        simp only [bnd_some_eq]
        rw [hp, hd hk0, decide_eq_true h0, cond_true, app_ok (by rw [List.length_singleton]; omega), bnd_some_eq]
      rw [run_next hb]
      have hbn : ((((rootS :: L).getD k zRest).before.toNat : Nat) : Int) = ((rootS :: L).getD k zRest).before := by omega
      obtain ⟨k', e2⟩ := ih ((rootS :: L).getD k zRest).before.toNat (acc ++ [((rootS :: L).getD k zRest).domino]) (by omega) (by omega) (by rw [List.length_append, List.length_singleton]; omega)
      rw [hbn] at e2
      refine ⟨k', ?_⟩
      rw [e2, if_pos h0, List.reverse_append, List.append_assoc]
      rfl
    · refine ⟨(k : Int), run_done ?_⟩
      simp only [F_impl_SolveDominoes_L4]
      rw [e]
      simp only [bnd_some_eq]
      rw [hp, decide_eq_false h0, cond_false, if_neg h0, List.reverse_nil, List.append_nil]
end Go.Fn
