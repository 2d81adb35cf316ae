/-
  Machines that are built place by place: the reference and the program build the same. No program in sight. No condition.
-/
import Derived.Test.YtafjflnnkdbmdaaPTRun
namespace Go.Fn
open Go Go.Tc
/-! ### The shapes of the loops -/
section
variable {R0 : Type}
abbrev SpS := List (List Int) × List GRule × Int
noncomputable def spL3 (fail : R0) (s16 : SpS) (r26 : Gl13Move) (s51 : Int) : Option (Int ⊕ Out Int (Option (SpS ⊕ Out SpS R0))) :=
  (cond (decide (s51 < (s16.1.length : Int))) (bnd (idx s16.1 s51) fun y54 => bnd (F_spec_l00Same y54 r26.next) fun r57 => (cond r57 (some (.inr (.ret (bnd ((cond (decide (s51 < 0)) (cond (decide ((s16.1.length : Int) = 1000)) (some (.ret fail)) (bnd (app s16.1 ([r26.next] : List (List Int))) fun z68 => some (.brk (z68, (s16.1.length : Int))))) (some (.brk (s16.1, s51)))) : Option (Out ((List (List Int)) × Int) R0)) (Out.elim (fun (s60 : (List (List Int)) × Int) => bnd (app s16.2.1 ([(⟨r26.write, r26.move, s60.2⟩ : GRule)] : List GRule)) fun z79 => some (.inl (s60.1, z79, (w64 (s16.2.2 + 1))))) (fun (r : R0) => some (.inr (.ret r)))))))) (some (.inl (w64 (s51 + 1)))))) (some (.inr (.brk s51))))
noncomputable def spL2 (fail : R0) (n : Int) (mv : List Int → Int → Option Gl13Move) (s13 s16 : SpS) : Option (SpS ⊕ Out SpS R0) :=
  (cond (decide (s16.2.2 < n)) (bnd (idx s16.1 s13.2.2) fun y19 => bnd (mv y19 s16.2.2) fun r26 => (cond (!r26.ok) (bnd (bnd F_spec_l05None fun r36 => bnd (app s16.2.1 ([r36] : List GRule)) fun z39 => some (.brk z39) : Option (Out ((List GRule)) R0)) (Out.elim (fun (s31 : (List GRule)) => some (.inl (s16.1, s31, (w64 (s16.2.2 + 1))))) (fun (r : R0) => some (.inr (.ret r))))) (bnd (run (spL3 fail s16 r26) 0) (Out.elim (fun (s51 : Int) => bnd ((cond (decide ((s16.1.length : Int) = 1000)) (some (.ret fail)) (bnd (app s16.1 ([r26.next] : List (List Int))) fun z93 => some (.brk (z93, (s16.1.length : Int))))) : Option (Out ((List (List Int)) × Int) R0)) (Out.elim (fun (s86 : (List (List Int)) × Int) => bnd (app s16.2.1 ([(⟨r26.write, r26.move, s86.2⟩ : GRule)] : List GRule)) fun z104 => some (.inl (s86.1, z104, (w64 (s16.2.2 + 1))))) (fun (r : R0) => some (.inr (.ret r))))) (fun (r : Option (SpS ⊕ Out SpS R0)) => r))))) (some (.inr (.brk (s16.1, s16.2.1, s16.2.2)))))
noncomputable def spL1 (fail : R0) (n : Int) (mv : List Int → Int → Option Gl13Move) (s13 : SpS) : Option (SpS ⊕ Out SpS R0) :=
  (cond (decide (s13.2.2 < (s13.1.length : Int))) (bnd (run (spL2 fail n mv s13) (s13.1, s13.2.1, 0)) (Out.elim (fun (s16 : SpS) => some (.inl (s16.1, s16.2.1, (w64 (s13.2.2 + 1))))) (fun (r : R0) => some (.inr (.ret r))))) (some (.inr (.brk (s13.1, s13.2.1, s13.2.2)))))
variable {P A : Type} [DecidableEq P]
abbrev ImS (P : Type) := List GRule × List P × List (P × Int) × Int
noncomputable def imL2 (fail : R0) (n : Int) (at_ : P → Int → Option A) (non : A → Bool) (wr mv : A → Int) (nx : A → P) (s36 s39 : ImS P) : Option (ImS P ⊕ Out (ImS P) R0) :=
  (cond (decide (s39.2.2.2 < n)) (bnd F_impl_noRule fun r42 => bnd (bnd (idx s39.2.1 s36.2.2.2) fun y47 => bnd (at_ y47 s39.2.2.2) fun r52 => (cond (!(non r52)) (cond (!((mget s39.2.2.1 (nx r52)).isSome)) (bnd (some (s39.2.1.length : Int)) fun r63 => bnd (app s39.2.1 ([nx r52] : List P)) fun z72 => some (.brk (z72, (mput s39.2.2.1 (nx r52) r63), wr r52, mv r52, r63))) (some (.brk (s39.2.1, s39.2.2.1, wr r52, mv r52, ((mget s39.2.2.1 (nx r52)).getD 0))))) (some (.brk (s39.2.1, s39.2.2.1, r42.Write, r42.Move, r42.Next)))) : Option (Out (List P × List (P × Int) × Int × Int × Int) R0)) (Out.elim (fun (s45 : List P × List (P × Int) × Int × Int × Int) => bnd (app s39.1 ([(⟨s45.2.2.1, s45.2.2.2.1, s45.2.2.2.2⟩ : GRule)] : List GRule)) fun z83 => some (.inl (z83, s45.1, s45.2.1, (w64 (s39.2.2.2 + 1))))) (fun (r : R0) => some (.inr (.ret r))))) (some (.inr (.brk (s39.1, s39.2.1, s39.2.2.1, s39.2.2.2)))))
noncomputable def imL1 (fail : R0) (n : Int) (at_ : P → Int → Option A) (non : A → Bool) (wr mv : A → Int) (nx : A → P) (s36 : ImS P) : Option (ImS P ⊕ Out (ImS P) R0) :=
  (cond (decide (s36.2.2.2 < (s36.2.1.length : Int))) (bnd (run (imL2 fail n at_ non wr mv nx s36) (s36.1, s36.2.1, s36.2.2.1, 0)) (Out.elim (fun (s39 : ImS P) => (cond (decide (1000 < (s39.2.1.length : Int))) (some (.inr (.ret fail))) (some (.inl (s39.1, s39.2.1, s39.2.2.1, (w64 (s36.2.2.2 + 1))))))) (fun (r : R0) => some (.inr (.ret r))))) (some (.inr (.brk (s36.1, s36.2.1, s36.2.2.1, s36.2.2.2)))))

/-! ### What is built -/
/-- A place's number; a new place is put behind the others. -/
def addP (ps : List P) (x : P) : List P × Nat := match ps.findIdx? (fun z => decide (z = x)) with
  | some i => (ps, i)
  | none => (ps ++ [x], ps.length)
def stepV (act : P → Nat → Option (Int × Int × P)) (p : P) (v : Nat) (st : List GRule × List P) : List GRule × List P := match act p v with
  | none => (st.1 ++ [noR], st.2)
  | some (w, m, x) => (st.1 ++ [⟨w, m, ((addP st.2 x).2 : Int)⟩], (addP st.2 x).1)
/-- The symbols from v on, k of them. -/
def rowV (act : P → Nat → Option (Int × Int × P)) (p : P) : Nat → Nat → List GRule × List P → List GRule × List P
  | 0, _, st => st
  | k + 1, v, st => rowV act p k (v + 1) (stepV act p v st)
def buildA (act : P → Nat → Option (Int × Int × P)) (n : Nat) : Nat → Nat → List GRule × List P → Option (List GRule × List P)
  | 0, _, _ => none
  | f + 1, k, st => match st.2[k]? with
    | none => some st
    | some p => if 1000 < (rowV act p n 0 st).2.length then none else buildA act n f (k + 1) (rowV act p n 0 st)
theorem addP_len (ps : List P) (x : P) : ps.length ≤ (addP ps x).1.length ∧ (addP ps x).1.length ≤ ps.length + 1 := by
  unfold addP
  split <;> simp
theorem addP_pre (ps : List P) (x : P) {k : Nat} {p : P} (h : ps[k]? = some p) : (addP ps x).1[k]? = some p := by
  unfold addP
  split
  · exact h
  · rw [List.getElem?_append_left (List.getElem?_eq_some_iff.1 h).1, h]
theorem addP_some {ps : List P} {x : P} {i : Nat} (h : ps.findIdx? (fun z => decide (z = x)) = some i) : addP ps x = (ps, i) := by
  unfold addP
  rw [h]
theorem addP_none {ps : List P} {x : P} (h : ps.findIdx? (fun z => decide (z = x)) = none) : addP ps x = (ps ++ [x], ps.length) := by
  unfold addP
  rw [h]
theorem stepV_none {act : P → Nat → Option (Int × Int × P)} {p : P} {v : Nat} {st : List GRule × List P} (h : act p v = none) : stepV act p v st = (st.1 ++ [noR], st.2) := by
  unfold stepV
  rw [h]
theorem stepV_some {act : P → Nat → Option (Int × Int × P)} {p : P} {v : Nat} {st : List GRule × List P} {w m : Int} {x : P} (h : act p v = some (w, m, x)) : stepV act p v st = (st.1 ++ [⟨w, m, ((addP st.2 x).2 : Int)⟩], (addP st.2 x).1) := by
  unfold stepV
  rw [h]
theorem stepV_len (act : P → Nat → Option (Int × Int × P)) (p : P) (v : Nat) (st : List GRule × List P) : (stepV act p v st).1.length = st.1.length + 1 ∧ st.2.length ≤ (stepV act p v st).2.length ∧ (stepV act p v st).2.length ≤ st.2.length + 1 := by
  unfold stepV
  split
  · simp
  · rename_i w m x h
    have := addP_len st.2 x
    exact ⟨by simp, this.1, this.2⟩
theorem stepV_pre (act : P → Nat → Option (Int × Int × P)) (p : P) (v : Nat) (st : List GRule × List P) {k : Nat} {q : P} (h : st.2[k]? = some q) : (stepV act p v st).2[k]? = some q := by
  unfold stepV
  split
  · exact h
  · exact addP_pre _ _ h
theorem rowV_len (act : P → Nat → Option (Int × Int × P)) (p : P) : ∀ (k v : Nat) (st : List GRule × List P), (rowV act p k v st).1.length = st.1.length + k ∧ st.2.length ≤ (rowV act p k v st).2.length ∧ (rowV act p k v st).2.length ≤ st.2.length + k
  | 0, v, st => ⟨rfl, Nat.le_refl _, Nat.le_refl _⟩
  | k + 1, v, st => by
    have h1 := stepV_len act p v st
    have h2 := rowV_len act p k (v + 1) (stepV act p v st)
    rw [rowV]
    omega
/-- What is asked of what is done in a place. -/
structure ActOk (act : P → Nat → Option (Int × Int × P)) (n : Nat) (VP : P → Prop) : Prop where
  next : ∀ p v w m x, VP p → v < n → act p v = some (w, m, x) → VP x
def AllV (VP : P → Prop) (ps : List P) : Prop := ∀ p ∈ ps, VP p
theorem addP_all {VP : P → Prop} {ps : List P} {x : P} (h : AllV VP ps) (hx : VP x) : AllV VP (addP ps x).1 := by
  unfold addP
  split
  · exact h
  · intro p hp
    rcases List.mem_append.1 hp with hp | hp
    · exact h p hp
    · rw [List.mem_singleton.1 hp]
      exact hx
theorem stepV_all {act : P → Nat → Option (Int × Int × P)} {n : Nat} {VP : P → Prop} (H : ActOk act n VP) {p : P} (hp : VP p) {v : Nat} (hv : v < n) {st : List GRule × List P} (h : AllV VP st.2) : AllV VP (stepV act p v st).2 := by
  unfold stepV
  split
  · exact h
  · rename_i w m x e
    exact addP_all h (H.next p v w m x hp hv e)
theorem rowV_all {act : P → Nat → Option (Int × Int × P)} {n : Nat} {VP : P → Prop} (H : ActOk act n VP) {p : P} (hp : VP p) : ∀ (k v : Nat) (st : List GRule × List P), v + k = n → AllV VP st.2 → AllV VP (rowV act p k v st).2
  | 0, _, _, _, h => h
  | k + 1, v, st, hv, h => rowV_all H hp k (v + 1) _ (by omega) (stepV_all H hp (by omega) h)

/-! ### The program's -/
def NumOk (ps : List P) (m : List (P × Int)) : Prop := ∀ x, mget m x = (ps.findIdx? (fun z => decide (z = x))).map fun i : Nat => (i : Int)
theorem NumOk.add {ps : List P} {m : List (P × Int)} (h : NumOk ps m) {x : P} (hx : ps.findIdx? (fun z => decide (z = x)) = none) : NumOk (ps ++ [x]) (mput m x (ps.length : Int)) := by
  intro y
  rw [mget_mput, List.findIdx?_append]
  by_cases e : x = y
  · subst e
    rw [if_pos rfl, hx]
    simp
  · rw [if_neg e, h y]
    cases ps.findIdx? (fun z => decide (z = y)) with
    | none => simp [e]
    | some i => rfl
variable {at_ : P → Int → Option A} {non : A → Bool} {wr mv : A → Int} {nx : A → P} {act : P → Nat → Option (Int × Int × P)} {n : Nat} {VP : P → Prop} {fail : R0}
/-- What the program does in a place is what is said. -/
def AtOk (at_ : P → Int → Option A) (non : A → Bool) (wr mv : A → Int) (nx : A → P) (act : P → Nat → Option (Int × Int × P)) (n : Nat) (VP : P → Prop) : Prop :=
  ∀ p v, VP p → v < n → ∃ a, at_ p (v : Int) = some a ∧ act p v = if non a then none else some (wr a, mv a, nx a)
theorem im_step (hn : n ≤ 100) (hat : AtOk at_ non wr mv nx act n VP) {rules : List GRule} {ps : List P} {nums : List (P × Int)} {k v : Nat} {p : P} (hk : ps[k]? = some p) (hp : VP p) (hv : v < n) (hN : NumOk ps nums) (hr : rules.length ≤ 1000000) (hl : ps.length ≤ 1000000) (s36 : ImS P) (hs : s36.2.2.2 = (k : Int)) :
    ∃ nums', imL2 fail (n : Int) at_ non wr mv nx s36 (rules, ps, nums, (v : Int)) = some (.inl ((stepV act p v (rules, ps)).1, (stepV act p v (rules, ps)).2, nums', ((v + 1 : Nat) : Int))) ∧ NumOk (stepV act p v (rules, ps)).2 nums' := by
  obtain ⟨a, ha, hact⟩ := hat p v hp hv
  have hlt : k < ps.length := (List.getElem?_eq_some_iff.1 hk).1
  have hkk : ps[k] = p := (List.getElem?_eq_some_iff.1 hk).2
  have h1 : ∀ r : GRule, app rules [r] = some (rules ++ [r]) := fun r => app_ok (by simp; omega)
  have h2 : ∀ x : P, app ps [x] = some (ps ++ [x]) := fun r => app_ok (by simp; omega)
  have hbase : imL2 fail (n : Int) at_ non wr mv nx s36 (rules, ps, nums, (v : Int)) = bnd (cond (!(non a)) (cond (!((mget nums (nx a)).isSome)) (some (.brk (ps ++ [nx a], (mput nums (nx a) (ps.length : Int)), wr a, mv a, (ps.length : Int)))) (some (.brk (ps, nums, wr a, mv a, ((mget nums (nx a)).getD 0))))) (some (.brk (ps, nums, 0, 0, -1))) : Option (Out (List P × List (P × Int) × Int × Int × Int) R0)) (Out.elim (fun (s45 : List P × List (P × Int) × Int × Int × Int) => some (.inl (rules ++ [⟨s45.2.2.1, s45.2.2.2.1, s45.2.2.2.2⟩], s45.1, s45.2.1, ((v + 1 : Nat) : Int)))) (fun (r : R0) => some (.inr (.ret r)))) := by
    simp only [imL2, Int.ofNat_lt, hv, decide_true, cond_true, hs, idx_nat hlt, hkk, ha, bnd_some_eq, F_impl_noRule, h1, h2, w64_nat1 (show v < 4611686018427387904 by omega)]
  cases hna : non a with
  | true =>
    rw [hna, if_pos rfl] at hact
    rw [hbase, stepV_none hact, hna]
    exact ⟨nums, rfl, hN⟩
  | false =>
    rw [hna, if_neg (by decide)] at hact
    rw [hbase, stepV_some hact, hna]
    have e := hN (nx a)
    cases hf : ps.findIdx? (fun z => decide (z = nx a)) with
    | none =>
      rw [hf, Option.map_none] at e
      rw [addP_none hf, e]
      exact ⟨_, rfl, hN.add hf⟩
    | some i =>
      rw [hf, Option.map_some] at e
      rw [addP_some hf, e]
      exact ⟨nums, rfl, hN⟩
theorem im_row (hn : n ≤ 100) (hat : AtOk at_ non wr mv nx act n VP) (H : ActOk act n VP) {k : Nat} {p : P} (hp : VP p) (s36 : ImS P) (hs : s36.2.2.2 = (k : Int)) : ∀ (j v : Nat) (rules : List GRule) (ps : List P) (nums : List (P × Int)), v + j = n → ps[k]? = some p → NumOk ps nums → rules.length + j ≤ 1000000 → ps.length + j ≤ 1000000 →
    ∃ nums', run (imL2 fail (n : Int) at_ non wr mv nx s36) (rules, ps, nums, (v : Int)) = some (.brk ((rowV act p j v (rules, ps)).1, (rowV act p j v (rules, ps)).2, nums', (n : Int))) ∧ NumOk (rowV act p j v (rules, ps)).2 nums'
  | 0, v, rules, ps, nums, hv, hk, hN, _, _ => by
    obtain rfl : v = n := by omega
    exact ⟨nums, run_done (by simp [imL2, rowV]), hN⟩
  | j + 1, v, rules, ps, nums, hv, hk, hN, hr, hl => by
    obtain ⟨nums', hb, hN'⟩ := im_step (fail := fail) (rules := rules) hn hat hk hp (by omega : v < n) hN (by omega) (by omega) s36 hs
    have hlen := stepV_len act p v (rules, ps)
    rw [run_next hb, rowV]
    exact im_row hn hat H hp s36 hs j (v + 1) _ _ nums' (by omega) (stepV_pre act p v (rules, ps) hk) hN' (by have := hlen.1; simp only at this; omega) (by have := hlen.2.2; simp only at this; omega)
theorem im_run (hn : n ≤ 100) (hat : AtOk at_ non wr mv nx act n VP) (H : ActOk act n VP) : ∀ (f k : Nat) (rules : List GRule) (ps : List P) (nums : List (P × Int)), k + f = 1002 → k ≤ ps.length → ps.length ≤ 1000 → AllV VP ps → NumOk ps nums → rules.length ≤ k * n →
    match buildA act n f k (rules, ps) with
    | none => run (imL1 fail (n : Int) at_ non wr mv nx) (rules, ps, nums, (k : Int)) = some (.ret fail)
    | some st => ∃ nums', run (imL1 fail (n : Int) at_ non wr mv nx) (rules, ps, nums, (k : Int)) = some (.brk (st.1, st.2, nums', (st.2.length : Int))) ∧ NumOk st.2 nums' ∧ AllV VP st.2 ∧ st.2.length ≤ 1000 ∧ st.1.length ≤ 1000 * n
  | 0, k, rules, ps, nums, hf, hk, hl, _, _, _ => by omega
  | f + 1, k, rules, ps, nums, hf, hk, hl, hV, hN, hr => by
    have hkn : k * n ≤ 1000 * n := Nat.mul_le_mul_right n (by omega)
    rw [buildA]
    by_cases hlt : k < ps.length
    · have hg : ps[k]? = some ps[k] := List.getElem?_eq_getElem hlt
      have hp : VP ps[k] := hV _ (List.getElem_mem hlt)
      simp only [hg]
      have hlen := rowV_len act ps[k] n 0 (rules, ps)
      obtain ⟨nums', hrow, hN'⟩ := im_row (fail := fail) hn hat H hp (rules, ps, nums, (k : Int)) rfl n 0 rules ps nums (by omega) hg hN (by omega) (by omega)
      have hbody : imL1 fail (n : Int) at_ non wr mv nx (rules, ps, nums, (k : Int)) = cond (decide (1000 < (rowV act ps[k] n 0 (rules, ps)).2.length)) (some (.inr (.ret fail))) (some (.inl ((rowV act ps[k] n 0 (rules, ps)).1, (rowV act ps[k] n 0 (rules, ps)).2, nums', ((k + 1 : Nat) : Int)))) := by
        simp only [imL1, Int.ofNat_lt, hlt, decide_true, cond_true]
        rw [show ((0 : Nat) : Int) = 0 from rfl] at hrow
        rw [hrow, bnd_some_eq]
        simp only [Out.elim]
        rw [w64_nat1 (by omega), show decide ((1000 : Int) < (((rowV act ps[k] n 0 (rules, ps)).2.length : Nat) : Int)) = decide (1000 < (rowV act ps[k] n 0 (rules, ps)).2.length) by rw [decide_eq_decide]; omega]
      by_cases hc : 1000 < (rowV act ps[k] n 0 (rules, ps)).2.length
      · rw [if_pos hc]
        exact run_done (by rw [hbody, decide_eq_true hc]; rfl)
      · rw [if_neg hc]
        have hnx : run (imL1 fail (n : Int) at_ non wr mv nx) (rules, ps, nums, (k : Int)) = run (imL1 fail (n : Int) at_ non wr mv nx) ((rowV act ps[k] n 0 (rules, ps)).1, (rowV act ps[k] n 0 (rules, ps)).2, nums', ((k + 1 : Nat) : Int)) := run_next (by rw [hbody, decide_eq_false hc]; rfl)
        rw [hnx]
        exact im_run hn hat H f (k + 1) _ _ nums' (by omega) (by have := hlen.2.1; simp only at this; omega) (by omega) (rowV_all H hp n 0 (rules, ps) (by omega) hV) hN' (by rw [hlen.1, Nat.succ_mul]; simp only; omega)
    · obtain rfl : k = ps.length := by omega
      rw [List.getElem?_eq_none (Nat.le_refl _)]
      refine ⟨nums, run_done (by simp [imL1]), hN, hV, hl, ?_⟩
      exact Nat.le_trans hr hkn
end
/-! ### The reference's -/
theorem same_L {xs ys : List Int} (h1 : xs.length ≤ 1000000) (h2 : ys.length ≤ 1000000) : F_spec_l00Same xs ys = some (decide (xs = ys)) := by
  unfold F_spec_l00Same
  by_cases hl : xs.length = ys.length
  · rw [decide_eq_false (by omega : ¬ (xs.length : Int) ≠ (ys.length : Int)), cond_false, run_all xs.length (by omega) (fun i => decide (xs[i]? = ys[i]?)) (.ret false) (.brk (xs.length : Int)) ?_ ?_ ?_]
    · by_cases e : xs = ys
      · subst e
        simp [Out.elim]
      · rw [if_neg, decide_eq_false e]
        · rfl
        · intro k
          refine e (List.ext_getElem? fun i => ?_)
          by_cases hi : i < xs.length
          · simpa using k i hi
          · rw [List.getElem?_eq_none (by omega), List.getElem?_eq_none (by omega)]
    · intro i hi hp
      have hb : i < ys.length := by omega
      simp [List.getElem?_eq_getElem hi, List.getElem?_eq_getElem hb] at hp
      simp [F_spec_l00Same_L1, hi, idx_nat hi, idx_nat hb, hp]
    · intro i hi hp
      have hb : i < ys.length := by omega
      simp [List.getElem?_eq_getElem hi, List.getElem?_eq_getElem hb] at hp
      simp [F_spec_l00Same_L1, hi, idx_nat hi, idx_nat hb, hp]
    · simp [F_spec_l00Same_L1]
  · rw [decide_eq_true (by omega : (xs.length : Int) ≠ (ys.length : Int)), decide_eq_false (fun e => hl (by rw [e]))]
    rfl
section
variable {R0 P : Type} [DecidableEq P] {mv : List Int → Int → Option Gl13Move} {enc : P → List Int} {act : P → Nat → Option (Int × Int × P)} {n : Nat} {VP : P → Prop} {fail : R0}
def mvIs (enc : P → List Int) (a : Gl13Move) (o : Option (Int × Int × P)) : Prop := match o with
  | none => a.ok = false
  | some (w, m, x) => a = ⟨true, w, m, enc x⟩
/-- What the reference does in a place is what is said. -/
structure MvOk (mv : List Int → Int → Option Gl13Move) (enc : P → List Int) (act : P → Nat → Option (Int × Int × P)) (n : Nat) (VP : P → Prop) : Prop where
  inj : ∀ p q, VP p → VP q → enc p = enc q → p = q
  len : ∀ p, VP p → (enc p).length ≤ 100
  mv : ∀ p v, VP p → v < n → ∃ a : Gl13Move, mv (enc p) (v : Int) = some a ∧ mvIs enc a (act p v)
theorem find_enc (H : MvOk mv enc act n VP) {x : P} (hx : VP x) : ∀ ps : List P, AllV VP ps → (ps.map enc).findIdx? (fun z => decide (z = enc x)) = ps.findIdx? (fun z => decide (z = x))
  | [], _ => rfl
  | p :: ps, h => by
    have e : decide (enc p = enc x) = decide (p = x) := by
      rw [decide_eq_decide]
      exact ⟨H.inj p x (h p (by simp)) hx, fun e => by rw [e]⟩
    rw [List.map_cons, List.findIdx?_cons, List.findIdx?_cons, e, find_enc H hx ps (fun q hq => h q (by simp [hq]))]
theorem sp_find (s16 : SpS) (r26 : Gl13Move) (h1 : ∀ y ∈ s16.1, y.length ≤ 1000000) (h2 : r26.next.length ≤ 1000000) (h3 : s16.1.length ≤ 1000) :
    run (spL3 fail s16 r26) 0 = match s16.1.findIdx? (fun z => decide (z = r26.next)) with
      | none => some (.brk (s16.1.length : Int))
      | some i => some (.ret (bnd (app s16.2.1 ([(⟨r26.write, r26.move, (i : Int)⟩ : GRule)] : List GRule)) fun z79 => some (.inl (s16.1, z79, (w64 (s16.2.2 + 1)))))) := by
  have key : ∀ k i, i + k = s16.1.length → (∀ j, j < i → s16.1[j]? ≠ some r26.next) → run (spL3 fail s16 r26) (i : Int) = match s16.1.findIdx? (fun z => decide (z = r26.next)) with
      | none => some (.brk (s16.1.length : Int))
      | some i => some (.ret (bnd (app s16.2.1 ([(⟨r26.write, r26.move, (i : Int)⟩ : GRule)] : List GRule)) fun z79 => some (.inl (s16.1, z79, (w64 (s16.2.2 + 1)))))) := by
    intro k
    induction k with
    | zero =>
      intro i hi hn
      obtain rfl : i = s16.1.length := by omega
      have : s16.1.findIdx? (fun z => decide (z = r26.next)) = none := by
        rw [List.findIdx?_eq_none_iff]
        intro x hx
        obtain ⟨j, hj⟩ := List.mem_iff_getElem?.1 hx
        refine decide_eq_false fun e => ?_
        subst e
        exact hn j (List.getElem?_eq_some_iff.1 hj).1 hj
      rw [this, run_done (x := .brk (s16.1.length : Int)) (by simp [spL3])]
    | succ k ih =>
      intro i hi hn
      have hlt : i < s16.1.length := by omega
      have hs := same_L (h1 _ (List.getElem_mem hlt)) h2
      by_cases he : s16.1[i] = r26.next
      · have : s16.1.findIdx? (fun z => decide (z = r26.next)) = some i := by
          rw [List.findIdx?_eq_some_iff_getElem]
          refine ⟨hlt, decide_eq_true he, fun j hj => ?_⟩
          rw [decide_eq_true_eq]
          intro e
          exact hn j hj (by rw [List.getElem?_eq_getElem (by omega), e])
        rw [this]
        refine run_done ?_
        have kf : decide ((i : Int) < 0) = false := decide_eq_false (by omega)
        simp only [spL3, Int.ofNat_lt, hlt, decide_true, cond_true, idx_nat hlt, bnd_some_eq, hs, decide_eq_true he, kf, cond_false, Out.elim]
      · rw [run_next (s' := ((i + 1 : Nat) : Int)) (by
          simp only [spL3, Int.ofNat_lt, hlt, decide_true, cond_true, idx_nat hlt, bnd_some_eq, hs, decide_eq_false he, cond_false]
          rw [w64_nat1 (by omega)])]
        refine ih (i + 1) (by omega) fun j hj => ?_
        by_cases hji : j = i
        · subst hji
          rw [List.getElem?_eq_getElem hlt]
          exact fun e => he (Option.some.inj e)
        · exact hn j (by omega)
  exact key s16.1.length 0 (by omega) (fun j hj => by omega)
theorem sp_step (hn : n ≤ 100) (H : MvOk mv enc act n VP) (HA : ActOk act n VP) {rules : List GRule} {ps : List P} {k v : Nat} {p : P} (hk : ps[k]? = some p) (hV : AllV VP ps) (hv : v < n) (hr : rules.length ≤ 1000000) (hl : ps.length ≤ 1000) (s13 : SpS) (hs : s13.2.2 = (k : Int)) :
    spL2 fail (n : Int) mv s13 (ps.map enc, rules, (v : Int)) = if 1000 < (stepV act p v (rules, ps)).2.length then some (.inr (.ret fail)) else some (.inl ((stepV act p v (rules, ps)).2.map enc, (stepV act p v (rules, ps)).1, ((v + 1 : Nat) : Int))) := by
  have hp : VP p := hV p (List.mem_of_getElem? hk)
  obtain ⟨a, ha, hact⟩ := H.mv p v hp hv
  have hlt : k < ps.length := (List.getElem?_eq_some_iff.1 hk).1
  have hlt' : k < (ps.map enc).length := by simpa using hlt
  have hkk : (ps.map enc)[k] = enc p := by rw [List.getElem_map, (List.getElem?_eq_some_iff.1 hk).2]
  have h1 : ∀ r : GRule, app rules [r] = some (rules ++ [r]) := fun r => app_ok (by simp; omega)
  have h2 : ∀ y : List Int, app (ps.map enc) [y] = some (ps.map enc ++ [y]) := fun r => app_ok (by simp; omega)
  simp only [spL2, Int.ofNat_lt, hv, decide_true, cond_true, hs, idx_nat hlt', hkk, ha, bnd_some_eq]
  cases he : act p v with
  | none =>
    rw [he] at hact
    unfold mvIs at hact
    simp only at hact
    rw [hact, stepV_none he, if_neg (by simp only; omega)]
    simp only [Bool.not_false, cond_true, F_spec_l05None, bnd_some_eq, h1, Out.elim, w64_nat1 (show v < 4611686018427387904 by omega)]
    rfl
  | some t =>
    obtain ⟨w, m, x⟩ := t
    rw [he] at hact
    unfold mvIs at hact
    simp only at hact
    subst hact
    have hx : VP x := HA.next p v w m x hp hv he
    rw [stepV_some he]
    simp only [Bool.not_true, cond_false]
    have hf := sp_find (fail := fail) (ps.map enc, rules, (v : Int)) ⟨true, w, m, enc x⟩ (by
      intro y hy
      obtain ⟨q, hq, rfl⟩ := List.mem_map.1 hy
      have := H.len q (hV q hq)
      omega) (by have := H.len x hx; simp only; omega) (by simpa using hl)
    rw [hf, find_enc H hx ps hV]
    cases hi : ps.findIdx? (fun z => decide (z = x)) with
    | some i =>
      rw [addP_some hi, if_neg (by simp only; omega)]
      simp only [h1, bnd_some_eq, Out.elim, w64_nat1 (show v < 4611686018427387904 by omega)]
    | none =>
      rw [addP_none hi]
      simp only [bnd_some_eq, Out.elim, List.length_map, List.length_append, List.length_singleton]
      by_cases hc : ps.length = 1000
      · rw [decide_eq_true (by omega : (ps.length : Int) = 1000), if_pos (by omega)]
        rfl
      · rw [decide_eq_false (by omega : ¬ (ps.length : Int) = 1000), if_neg (by omega)]
        simp only [cond_false, h2, bnd_some_eq, Out.elim, h1, w64_nat1 (show v < 4611686018427387904 by omega), List.map_append, List.map_cons, List.map_nil]
theorem sp_row (hn : n ≤ 100) (H : MvOk mv enc act n VP) (HA : ActOk act n VP) {k : Nat} {p : P} (s13 : SpS) (hs : s13.2.2 = (k : Int)) : ∀ (j v : Nat) (rules : List GRule) (ps : List P), v + j = n → ps[k]? = some p → AllV VP ps → rules.length + j ≤ 1000000 → ps.length ≤ 1000 →
    run (spL2 fail (n : Int) mv s13) (ps.map enc, rules, (v : Int)) = if 1000 < (rowV act p j v (rules, ps)).2.length then some (.ret fail) else some (.brk ((rowV act p j v (rules, ps)).2.map enc, (rowV act p j v (rules, ps)).1, (n : Int)))
  | 0, v, rules, ps, hv, hk, hV, _, hl => by
    obtain rfl : v = n := by omega
    rw [rowV, if_neg (by simp only; omega)]
    exact run_done (by simp [spL2])
  | j + 1, v, rules, ps, hv, hk, hV, hr, hl => by
    have hb := sp_step (fail := fail) (rules := rules) hn H HA hk hV (by omega : v < n) (by omega) hl s13 hs
    have hlen := stepV_len act p v (rules, ps)
    rw [rowV]
    by_cases hc : 1000 < (stepV act p v (rules, ps)).2.length
    · rw [if_pos hc] at hb
      have := (rowV_len act p j (v + 1) (stepV act p v (rules, ps))).2.1
      rw [if_pos (by omega)]
      exact run_done hb
    · rw [if_neg hc] at hb
      rw [run_next hb]
      exact sp_row hn H HA s13 hs j (v + 1) _ _ (by omega) (stepV_pre act p v (rules, ps) hk) (stepV_all HA (hV p (List.mem_of_getElem? hk)) (by omega) hV) (by have := hlen.1; simp only at this; omega) (by omega)
theorem sp_run (hn : n ≤ 100) (H : MvOk mv enc act n VP) (HA : ActOk act n VP) : ∀ (f k : Nat) (rules : List GRule) (ps : List P), k + f = 1002 → k ≤ ps.length → ps.length ≤ 1000 → AllV VP ps → rules.length ≤ k * n →
    run (spL1 fail (n : Int) mv) (ps.map enc, rules, (k : Int)) = match buildA act n f k (rules, ps) with
    | none => some (.ret fail)
    | some st => some (.brk (st.2.map enc, st.1, (st.2.length : Int)))
  | 0, k, rules, ps, hf, hk, hl, _, _ => by omega
  | f + 1, k, rules, ps, hf, hk, hl, hV, hr => by
    have hkn : k * n ≤ 1000 * n := Nat.mul_le_mul_right n (by omega)
    rw [buildA]
    by_cases hlt : k < ps.length
    · have hg : ps[k]? = some ps[k] := List.getElem?_eq_getElem hlt
      have hp : VP ps[k] := hV _ (List.getElem_mem hlt)
      have hlt' : k < (ps.map enc).length := by simpa using hlt
      simp only [hg]
      have hlen := rowV_len act ps[k] n 0 (rules, ps)
      have hrow := sp_row (fail := fail) hn H HA (ps.map enc, rules, (k : Int)) rfl n 0 rules ps (by omega) hg hV (by omega) hl
      rw [show ((0 : Nat) : Int) = 0 from rfl] at hrow
      by_cases hc : 1000 < (rowV act ps[k] n 0 (rules, ps)).2.length
      · rw [if_pos hc] at hrow ⊢
        refine run_done ?_
        simp only [spL1, Int.ofNat_lt, hlt', decide_true, cond_true]
        rw [hrow, bnd_some_eq]
        rfl
      · rw [if_neg hc] at hrow ⊢
        rw [run_next (s' := ((rowV act ps[k] n 0 (rules, ps)).2.map enc, (rowV act ps[k] n 0 (rules, ps)).1, ((k + 1 : Nat) : Int))) (by
          simp only [spL1, Int.ofNat_lt, hlt', decide_true, cond_true]
          rw [hrow, bnd_some_eq]
          simp only [Out.elim]
          rw [w64_nat1 (by omega)])]
        exact sp_run hn H HA f (k + 1) _ _ (by omega) (by have := hlen.2.1; simp only at this; omega) (by omega) (rowV_all HA hp n 0 (rules, ps) (by omega) hV) (by rw [hlen.1, Nat.succ_mul]; simp only; omega)
    · obtain rfl : k = ps.length := by omega
      rw [List.getElem?_eq_none (Nat.le_refl _)]
      exact run_done (by simp [spL1])
end
end Go.Fn
