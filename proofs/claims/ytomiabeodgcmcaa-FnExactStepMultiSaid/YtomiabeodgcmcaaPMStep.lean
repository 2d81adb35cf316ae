/-
  Machines with several tapes: a step, on both sides. No program in sight. No condition.
-/
import Derived.Test.YtomiabeodgcmcaaPMulti
import Derived.Test.YtomiabeodgcmcaaPConf
import Derived.Test.YtomiabeodgcmcaaPBig
import Derived.Test.YtomiabeodgcmcaaPPlain
namespace Go.Fn
open Go Go.Tc
/-! ### A tape -/
/-- A tape behind a step. -/
def tapeM (t : GTape) (x mv : Int) : GTape :=
  if mv = 1 then ⟨trimL (x :: t.Left), trimL (t.Right.drop 1)⟩
  else if mv = -1 then ⟨trimL (t.Left.drop 1), trimL (t.Left.headD 0 :: x :: t.Right.drop 1)⟩
  else ⟨trimL t.Left, trimL (x :: t.Right.drop 1)⟩
theorem slc1 {xs : List Int} (h : 1 ≤ xs.length) : slc xs 1 (xs.length : Int) = some (xs.drop 1) := by
  have := slc_ok (xs := xs) (lo := 1) (hi := xs.length) h (Nat.le_refl _)
  rw [List.take_length] at this
  exact this
theorem mt_trimS (xs : List Int) (h : xs.length ≤ 1000000) : F_spec_l06Trim xs = some (trimL xs) := by
  have := trimL_len xs
  unfold F_spec_l06Trim
  rw [spec_trim2 xs (by omega), bnd_some_eq, spec_own' _ (by omega), bnd_some_eq]
theorem mt_right (t : GTape) (x : Int) {R : Type} (hr : t.Right.length ≤ 1000) : ((cond (decide (0 < (t.Right.length : Int))) (bnd (slc t.Right 1 (t.Right.length : Int)) fun z10 => bnd (app ([x] : List Int) z10) fun z13 => some (.brk z13)) (some (.brk ([x] : List Int)))) : Option (Out ((List Int)) R)) = some (.brk (x :: t.Right.drop 1)) := by
  cases h : t.Right with
  | nil => rfl
  | cons a r =>
    rw [h] at hr
    rw [decide_eq_true (by simp <;> omega), cond_true, slc1 (by simp), bnd_some_eq, app_ok (by simp at hr ⊢; omega), bnd_some_eq]
    rfl
theorem mt_tapeS (t : GTape) (x mv : Int) (hl : t.Left.length ≤ 1000) (hr : t.Right.length ≤ 1000) : F_spec_l06Tape t x mv = some (tapeM t x mv) := by
  unfold F_spec_l06Tape tapeM
  rw [mt_right t x hr, bnd_some_eq]
  simp only [Out.elim]
  have hd : (t.Right.drop 1).length ≤ 1000 := by simp; omega
  rw [spec_own' _ (by omega), bnd_some_eq]
  by_cases h1 : mv = 1
  · rw [decide_eq_true h1, cond_true, if_pos h1, app_ok (by simp; omega), bnd_some_eq, slc1 (by simp), bnd_some_eq, mt_trimS _ (by simp; omega), bnd_some_eq, mt_trimS _ (by simp; omega), bnd_some_eq]
    rfl
  · rw [decide_eq_false h1, cond_false, if_neg h1]
    by_cases h2 : mv = -1
    · rw [decide_eq_true h2, cond_true, if_pos h2]
      cases h : t.Left with
      | nil =>
        simp only [List.length_nil]
        rw [decide_eq_false (by simp), cond_false, app_ok (by simp; omega), bnd_some_eq, mt_trimS _ (by simp), bnd_some_eq, mt_trimS _ (by simp; omega), bnd_some_eq]
        rfl
      | cons a r =>
        rw [h] at hl
        have e0 : idx (a :: r) 0 = some a := rfl
        rw [decide_eq_true (by simp <;> omega), cond_true, e0, bnd_some_eq, slc1 (by simp), bnd_some_eq, app_ok (by simp; omega), bnd_some_eq, mt_trimS _ (by simp at hl ⊢; omega), bnd_some_eq, mt_trimS _ (by simp; omega), bnd_some_eq]
        rfl
    · rw [decide_eq_false h2, cond_false, if_neg h2, mt_trimS _ (by omega), bnd_some_eq, mt_trimS _ (by simp; omega), bnd_some_eq]
theorem joined2 (a b : List Int) (h : a.length + b.length ≤ 100000) : F_impl_joined [a, b] = some (a ++ b) := by
  rw [impl_joined [a, b] (by simp) (by simp; omega)]
  simp
theorem mt_tapeI (t : GTape) (x mv : Int) (hl : t.Left.length ≤ 1000) (hr : t.Right.length ≤ 1000) : F_impl_Tape_write t x mv = some ((), (tapeM t x mv).Left, (tapeM t x mv).Right) := by
  unfold F_impl_Tape_write tapeM
  have e1 : ((cond (decide ((t.Right.length : Int) = 0)) (some (.brk ([0] : List Int))) (some (.brk t.Right))) : Option (Out ((List Int)) ((Unit) × ((List Int) × (List Int))))) = some (.brk (t.Right.headD 0 :: t.Right.drop 1)) := by
    cases h : t.Right with
    | nil => rfl
    | cons a r => rw [decide_eq_false (by simp; omega), cond_false]; rfl
  have e2 : ∀ (a : Int) (r : List Int), idx (a :: r) 0 = some a := fun _ _ => rfl
  have e3 : (t.Right.headD 0 :: t.Right.drop 1).set (0 : Int).toNat x = x :: t.Right.drop 1 := rfl
  have hd : (t.Right.drop 1).length ≤ 1000 := by simp; omega
  rw [e1, bnd_some_eq]
  simp only [Out.elim]
  rw [e2, bnd_some_eq, e3]
  by_cases h1 : mv = 1
  · have e4 : slc (x :: t.Right.drop 1) 0 1 = some [x] := by
      have := slc_ok (xs := x :: t.Right.drop 1) (lo := 0) (hi := 1) (by omega) (by simp)
      exact this
    rw [decide_eq_true h1, cond_true, if_pos h1, e4, bnd_some_eq, joined2 _ _ (by simp; omega), bnd_some_eq, bnd_some_eq]
    simp only [Out.elim]
    rw [slc1 (by simp), bnd_some_eq, bnd_some_eq]
    simp only [Out.elim]
    rw [impl_trimmed _ (by simp; omega), bnd_some_eq, impl_trimmed _ (by simp; omega), bnd_some_eq]
    rfl
  · rw [decide_eq_false h1, cond_false, if_neg h1]
    by_cases h2 : mv = -1
    · rw [decide_eq_true h2, cond_true, if_pos h2]
      cases h : t.Left with
      | nil =>
        simp only [List.length_nil]
        rw [decide_eq_false (by simp), cond_false, joined2 _ _ (by simp; omega), bnd_some_eq, bnd_some_eq]
        simp only [Out.elim]
        rw [impl_trimmed _ (by simp), bnd_some_eq, impl_trimmed _ (by simp; omega), bnd_some_eq]
        rfl
      | cons a r =>
        rw [h] at hl
        have e5 : ([0] : List Int).set (0 : Int).toNat a = [a] := rfl
        rw [decide_eq_true (by simp <;> omega), cond_true, e2, bnd_some_eq, e2, bnd_some_eq, slc1 (by simp), bnd_some_eq, e5, joined2 _ _ (by simp; omega), bnd_some_eq, bnd_some_eq]
        simp only [Out.elim]
        rw [impl_trimmed _ (by simp at hl ⊢; omega), bnd_some_eq, impl_trimmed _ (by simp; omega), bnd_some_eq]
        rfl
    · rw [decide_eq_false h2, cond_false, if_neg h2, bnd_some_eq]
      simp only [Out.elim]
      rw [impl_trimmed _ (by omega), bnd_some_eq, impl_trimmed _ (by simp; omega), bnd_some_eq]
/-! ### All tapes -/
def zT : GTape := ⟨[], []⟩
def tpM (ts : List GTape) (r : GMultiRule) (i : Nat) : GTape := tapeM (ts.getD i zT) (r.Write.getD i 0) (r.Move.getD i 0)
def tapesM (ts : List GTape) (r : GMultiRule) : List GTape := (List.range ts.length).map (tpM ts r)
def fitT (t : GTape) : Bool := decide (t.Left.length ≤ 200) && decide (t.Right.length ≤ 200)
/-- Tapes that are short. -/
def Shrt (ts : List GTape) : Prop := ts.length ≤ 3 ∧ ∀ t ∈ ts, t.Left.length ≤ 200 ∧ t.Right.length ≤ 200
theorem tapesM_len (ts : List GTape) (r : GMultiRule) : (tapesM ts r).length = ts.length := by simp [tapesM]
theorem getD_at {α : Type} {xs : List α} {i : Nat} (h : i < xs.length) (z : α) : xs.getD i z = xs[i] := by rw [List.getD_eq_getElem?_getD, List.getElem?_eq_getElem h]; rfl
theorem tapesM_at {ts : List GTape} {r : GMultiRule} {i : Nat} (h : i < ts.length) (hw : i < r.Write.length) (hm : i < r.Move.length) : (tapesM ts r)[i]'(by rw [tapesM_len]; exact h) = tapeM ts[i] r.Write[i] r.Move[i] := by
  simp only [tapesM, List.getElem_map, List.getElem_range, tpM]
  rw [getD_at h, getD_at hw, getD_at hm]
theorem mt_stepS {R : GMultiConfig × Int} (c : GMultiConfig) (r : GMultiRule) (hs : Shrt c.Tapes) (hw : r.Write.length = c.Tapes.length) (hm : r.Move.length = c.Tapes.length) (hR : R = ((⟨0, ([] : (List GTape))⟩ : GMultiConfig), 5)) :
    run (F_spec_l06Step_L1 c r) (([] : List GTape), 0) = some (if (tapesM c.Tapes r).all fitT = true then .brk (tapesM c.Tapes r, (c.Tapes.length : Int)) else .ret R) := by
  subst hR
  have key : ∀ (n i : Nat), i + n = c.Tapes.length → run (F_spec_l06Step_L1 c r) ((tapesM c.Tapes r).take i, (i : Int)) = some (if ((tapesM c.Tapes r).drop i).all fitT = true then .brk (tapesM c.Tapes r, (c.Tapes.length : Int)) else .ret ((⟨0, ([] : (List GTape))⟩ : GMultiConfig), 5)) := by
    intro n
    induction n with
    | zero =>
      intro i hi
      obtain rfl : i = c.Tapes.length := by omega
      have e1 : (tapesM c.Tapes r).take c.Tapes.length = tapesM c.Tapes r := List.take_of_length_le (by rw [tapesM_len]; exact Nat.le_refl _)
      have e2 : (tapesM c.Tapes r).drop c.Tapes.length = [] := List.drop_eq_nil_of_le (by rw [tapesM_len]; exact Nat.le_refl _)
      rw [e1, e2]
      refine run_done ?_
      simp only [F_spec_l06Step_L1]
      rw [decide_eq_false (by omega), cond_false]
      rfl
    | succ n ih =>
      intro i hi
      have hlt : i < c.Tapes.length := by omega
      have hlt' : i < (tapesM c.Tapes r).length := by rw [tapesM_len]; exact hlt
      obtain ⟨h1, h2⟩ := hs.2 _ (List.getElem_mem hlt)
      have ht : F_spec_l06Tape c.Tapes[i] r.Write[i] r.Move[i] = some ((tapesM c.Tapes r)[i]) := by rw [mt_tapeS _ _ _ (by omega) (by omega), tapesM_at hlt (by omega) (by omega)]
      have hb : F_spec_l06Step_L1 c r ((tapesM c.Tapes r).take i, (i : Int)) = (cond (decide (200 < (((tapesM c.Tapes r)[i]).Left.length : Int))) (some (.inr (.ret ((⟨0, ([] : (List GTape))⟩ : GMultiConfig), 5)))) (cond (decide (200 < (((tapesM c.Tapes r)[i]).Right.length : Int))) (some (.inr (.ret ((⟨0, ([] : (List GTape))⟩ : GMultiConfig), 5)))) (some (.inl ((tapesM c.Tapes r).take (i + 1), ((i + 1 : Nat) : Int)))))) := by
        simp only [F_spec_l06Step_L1]
        rw [decide_eq_true (by omega : (i : Int) < (c.Tapes.length : Int)), cond_true, idx_nat hlt, bnd_some_eq, idx_nat (by omega : i < r.Write.length), bnd_some_eq, idx_nat (by omega : i < r.Move.length), bnd_some_eq, ht, bnd_some_eq, app_ok (by have := hs.1; simp; omega), bnd_some_eq, w64_nat1 (by have := hs.1; omega), List.take_succ_eq_append_getElem hlt']
      rw [List.drop_eq_getElem_cons hlt', List.all_cons]
      unfold fitT
      by_cases a1 : ((tapesM c.Tapes r)[i]).Left.length ≤ 200
      · rw [decide_eq_false (by omega), cond_false] at hb
        by_cases a2 : ((tapesM c.Tapes r)[i]).Right.length ≤ 200
        · rw [decide_eq_false (by omega), cond_false] at hb
          rw [run_next hb, decide_eq_true a1, decide_eq_true a2, Bool.and_self, Bool.true_and]
          exact ih (i + 1) (by omega)
        · rw [decide_eq_true (by omega), cond_true] at hb
          rw [run_done hb, decide_eq_false a2, Bool.and_false, Bool.false_and]
          rfl
      · rw [decide_eq_true (by omega), cond_true] at hb
        rw [run_done hb, decide_eq_false a1, Bool.false_and, Bool.false_and]
        rfl
  have := key c.Tapes.length 0 (by omega)
  rw [List.take_zero, List.drop_zero] at this
  exact this
noncomputable def apB {X : Type} (l : Int) (r : GMultiRule) (s : (List GTape) × Bool × Int) : Option (((List GTape) × Bool × Int) ⊕ Out ((List GTape) × Bool × Int) X) :=
  (cond (decide (s.2.2 < l)) (bnd (idx s.1 s.2.2) fun y21 => bnd (idx r.Write s.2.2) fun y36 => bnd (idx r.Move s.2.2) fun y40 => bnd (F_impl_Tape_write y21 y36 y40) fun r47 => (cond s.2.1 (cond (decide ((r47.2.1.length : Int) ≤ 200)) (some (.inl ((s.1.set s.2.2.toNat (⟨r47.2.1, r47.2.2⟩ : GTape)), (decide ((r47.2.2.length : Int) ≤ 200)), (w64 (s.2.2 + 1))))) (some (.inl ((s.1.set s.2.2.toNat (⟨r47.2.1, r47.2.2⟩ : GTape)), false, (w64 (s.2.2 + 1)))))) (some (.inl ((s.1.set s.2.2.toNat (⟨r47.2.1, r47.2.2⟩ : GTape)), false, (w64 (s.2.2 + 1))))))) (some (.inr (.brk (s.1, s.2.1, s.2.2)))))
theorem mt_apply {X : Type} (ts : List GTape) (r : GMultiRule) (hs : Shrt ts) (hw : r.Write.length = ts.length) (hm : r.Move.length = ts.length) :
    run (apB (X := X) (ts.length : Int) r) (ts, true, 0) = some (.brk (tapesM ts r, (tapesM ts r).all fitT, (ts.length : Int))) := by
  have key : ∀ (n i : Nat) (b : Bool), i + n = ts.length → run (apB (X := X) (ts.length : Int) r) ((tapesM ts r).take i ++ ts.drop i, b, (i : Int)) = some (.brk (tapesM ts r, b && ((tapesM ts r).drop i).all fitT, (ts.length : Int))) := by
    intro n
    induction n with
    | zero =>
      intro i b hi
      obtain rfl : i = ts.length := by omega
      have e1 : (tapesM ts r).take ts.length = tapesM ts r := List.take_of_length_le (by rw [tapesM_len]; exact Nat.le_refl _)
      have e2 : (tapesM ts r).drop ts.length = [] := List.drop_eq_nil_of_le (by rw [tapesM_len]; exact Nat.le_refl _)
      rw [e1, e2, List.drop_length, List.append_nil, List.all_nil, Bool.and_true]
      refine run_done ?_
      simp only [apB]
      rw [decide_eq_false (by omega), cond_false]
    | succ n ih =>
      intro i b hi
      have hlt : i < ts.length := by omega
      have hlt' : i < (tapesM ts r).length := by rw [tapesM_len]; exact hlt
      have htl : ((tapesM ts r).take i).length = i := by rw [List.length_take]; omega
      obtain ⟨h1, h2⟩ := hs.2 _ (List.getElem_mem hlt)
      have ht : F_impl_Tape_write ts[i] r.Write[i] r.Move[i] = some ((), ((tapesM ts r)[i]).Left, ((tapesM ts r)[i]).Right) := by rw [mt_tapeI _ _ _ (by omega) (by omega), tapesM_at hlt (by omega) (by omega)]
      have hcl : i < ((tapesM ts r).take i ++ ts.drop i).length := by simp; omega
      have hel : ((tapesM ts r).take i ++ ts.drop i)[i] = ts[i] := by
        rw [List.getElem_append_right (by omega)]
        simp [htl]
      have hset : ((tapesM ts r).take i ++ ts.drop i).set i ((tapesM ts r)[i]) = (tapesM ts r).take (i + 1) ++ ts.drop (i + 1) := by
        rw [List.set_append_right _ _ (by omega), htl, Nat.sub_self, List.drop_eq_getElem_cons hlt, List.set_cons_zero, List.take_succ_eq_append_getElem hlt', List.append_assoc]
        rfl
      have hb : apB (X := X) (ts.length : Int) r ((tapesM ts r).take i ++ ts.drop i, b, (i : Int)) = some (.inl ((tapesM ts r).take (i + 1) ++ ts.drop (i + 1), b && fitT ((tapesM ts r)[i]), ((i + 1 : Nat) : Int))) := by
        simp only [apB]
        rw [decide_eq_true (by omega : (i : Int) < (ts.length : Int)), cond_true, idx_nat hcl, bnd_some_eq, hel, idx_nat (by omega : i < r.Write.length), bnd_some_eq, idx_nat (by omega : i < r.Move.length), bnd_some_eq, ht, bnd_some_eq, w64_nat1 (by have := hs.1; omega), Int.toNat_natCast]
        have he : (⟨((tapesM ts r)[i]).Left, ((tapesM ts r)[i]).Right⟩ : GTape) = (tapesM ts r)[i] := rfl
        rw [he, hset]
        unfold fitT
        cases b
        · rfl
        · rw [cond_true, Bool.true_and]
          by_cases a1 : ((tapesM ts r)[i]).Left.length ≤ 200
          · rw [decide_eq_true (by omega : (((tapesM ts r)[i]).Left.length : Int) ≤ 200), decide_eq_true a1, cond_true, Bool.true_and]
            have e9 : decide ((((tapesM ts r)[i]).Right.length : Int) ≤ 200) = decide (((tapesM ts r)[i]).Right.length ≤ 200) := decide_eq_decide.2 (by omega)
            rw [e9]
          · rw [decide_eq_false (by omega : ¬ (((tapesM ts r)[i]).Left.length : Int) ≤ 200), decide_eq_false a1, cond_false, Bool.false_and]
      rw [run_next hb, List.drop_eq_getElem_cons hlt', List.all_cons, ih (i + 1) _ (by omega), Bool.and_assoc]
  have := key ts.length 0 true (by omega)
  rw [List.take_zero, List.drop_zero, List.drop_zero, List.nil_append, Bool.true_and] at this
  exact this
/-! ### Copies -/
theorem mt_copyI (c : GMultiConfig) (hs : Shrt c.Tapes) : F_impl_copyMultiConfig c = some c := by
  unfold F_impl_copyMultiConfig
  have key : ∀ (n i : Nat), i + n = c.Tapes.length → run (F_impl_copyMultiConfig_L1 c) (c.Tapes.take i, (i : Int)) = some (.brk (c.Tapes, (c.Tapes.length : Int))) := by
    intro n
    induction n with
    | zero =>
      intro i hi
      obtain rfl : i = c.Tapes.length := by omega
      rw [List.take_length]
      refine run_done ?_
      simp only [F_impl_copyMultiConfig_L1]
      rw [decide_eq_false (by omega), cond_false]
    | succ n ih =>
      intro i hi
      have hlt : i < c.Tapes.length := by omega
      obtain ⟨h1, h2⟩ := hs.2 _ (List.getElem_mem hlt)
      have hb : F_impl_copyMultiConfig_L1 c (c.Tapes.take i, (i : Int)) = some (.inl (c.Tapes.take (i + 1), ((i + 1 : Nat) : Int))) := by
        simp only [F_impl_copyMultiConfig_L1, F_impl_copyTape]
        rw [decide_eq_true (by omega : (i : Int) < (c.Tapes.length : Int)), cond_true, idx_nat hlt, bnd_some_eq, impl_clone' _ (by omega), bnd_some_eq, impl_clone' _ (by omega), bnd_some_eq, bnd_some_eq, app_ok (by have := hs.1; simp; omega), bnd_some_eq, w64_nat1 (by have := hs.1; omega), List.take_succ_eq_append_getElem hlt]
      rw [run_next hb]
      exact ih (i + 1) (by omega)
  have := key c.Tapes.length 0 (by omega)
  rw [List.take_zero] at this
  rw [show ((0 : Nat) : Int) = 0 from rfl] at this
  rw [this, bnd_some_eq]
  rfl
/-! ### The rule of a configuration -/
def ruleIx (m : GMulti) (c : GMultiConfig) : Option Nat := m.Rules.findIdx? fun r => decide (r.State = c.State) && decide (r.Read = c.Tapes.map headMT)
theorem mt_ruleS (m : GMulti) (c : GMultiConfig) (s0 : Sml m) (hl : c.Tapes.length ≤ 1048576) : F_spec_l06Rule m c = some (match ruleIx m c with | none => -1 | some i => (i : Int)) := by
  have s0' : Sml m.Rules := s0
  have hl' := s0'.1
  unfold F_spec_l06Rule F_spec_l06RuleOf ruleIx
  rw [mt_heads c hl, bnd_some_eq]
  simp only [Out.elim]
  rw [run_find m.Rules (by omega) (fun r => decide (r.State = c.State) && decide (r.Read = c.Tapes.map headMT)) (fun i hi => by
    simp only [F_spec_l06RuleOf_L1, Int.ofNat_lt, hi, decide_true, cond_true, idx_nat hi, bnd_some_eq, mt_same _ _ (s0'.mem hi).1.1]
    cases decide (m.Rules[i].State = c.State)
    · rfl
    · cases decide (m.Rules[i].Read = c.Tapes.map headMT) <;> rfl) (by simp [F_spec_l06RuleOf_L1])]
  rfl
/-- What is known of a valid machine. -/
structure MOk (m : GMulti) : Prop where
  t2 : 2 ≤ m.Tapes
  t3 : m.Tapes ≤ 3
  len : m.Rules.length ≤ 60
  row : ∀ i (hi : i < m.Rules.length), (m.Rules[i].Read.length : Int) = m.Tapes ∧ (m.Rules[i].Write.length : Int) = m.Tapes ∧ (m.Rules[i].Move.length : Int) = m.Tapes
  ne : ∀ i (hi : i < m.Rules.length) j (hj : j < i), keyM m.Rules[j].State m.Rules[j].Read ≠ keyM m.Rules[i].State m.Rules[i].Read
theorem MOk.of {m : GMulti} (hm : multiB m = true) : MOk m := by
  unfold multiB headMM at hm
  simp only [Bool.and_eq_true, decide_eq_true_eq] at hm
  obtain ⟨⟨⟨⟨hT, _⟩, _⟩, hl⟩, hok⟩ := hm
  have hT' : 2 ≤ m.Tapes ∧ m.Tapes ≤ 3 := by simpa [inB] using hT
  have hrule : ∀ i (hi : i < m.Rules.length), ((m.Rules[i].Read.length : Int) = m.Tapes ∧ (m.Rules[i].Write.length : Int) = m.Tapes ∧ (m.Rules[i].Move.length : Int) = m.Tapes) ∧ (0 < i → befB (m.Rules.getD (i - 1) zM) m.Rules[i] = true) := fun i hi => by
    have h := hok i hi
    unfold okMR mruleB rowMN at h
    rw [mget_rule hi] at h
    simp only [Bool.and_eq_true, decide_eq_true_eq, Bool.or_eq_true] at h
    exact ⟨⟨h.1.2.1.1.1, h.1.2.1.2.1, h.1.2.2.1⟩, fun h0 => by
      rcases h.2 with h2 | h2
      · omega
      · exact h2⟩
  have hbef : ∀ i (hi : i < m.Rules.length) j (hj : j < i), befB m.Rules[j] m.Rules[i] = true := by
    intro i
    induction i with
    | zero => intro hi j hj; omega
    | succ i ih =>
      intro hi j hj
      have h1 := (hrule (i + 1) hi).2 (by omega)
      rw [Nat.add_sub_cancel, mget_rule (by omega : i < m.Rules.length)] at h1
      by_cases e : j = i
      · subst e; exact h1
      · exact befB_trans (ih (by omega) j (by omega)) h1
  refine ⟨hT'.1, hT'.2, hl, fun i hi => (hrule i hi).1, fun i hi j hj h => ?_⟩
  have e1 := (hrule i hi).1.1
  have e2 := (hrule j (by omega)).1.1
  obtain ⟨h1, h2⟩ := keyM_inj (by omega) (by omega) h
  have := hbef i hi j hj
  unfold befB at this
  rw [h1, h2, cmpL_self] at this
  simp at this
def TabOk (m : GMulti) (tb : List (Greading × Int)) : Prop := (∀ i (hi : i < m.Rules.length), mget tb (keyM m.Rules[i].State m.Rules[i].Read) = some (i : Int)) ∧ ∀ x, (∀ i (hi : i < m.Rules.length), keyM m.Rules[i].State m.Rules[i].Read ≠ x) → mget tb x = none
noncomputable def tbB {X : Type} (m : GMulti) (s19 : List (Greading × Int) × Int) : Option ((List (Greading × Int) × Int) ⊕ Out (List (Greading × Int) × Int) X) :=
  (cond (decide (s19.2 < (m.Rules.length : Int))) (bnd (idx m.Rules s19.2) fun y22 => some (.inl ((mput s19.1 (⟨y22.State, (y22.Read.getD 0 0), (y22.Read.getD 1 0), (y22.Read.getD 2 0)⟩ : Greading) s19.2), (w64 (s19.2 + 1))))) (some (.inr (.brk (s19.1, s19.2)))))
theorem mt_tableG {X : Type} {m : GMulti} (h : MOk m) : ∃ tb, run (tbB (X := X) m) (([] : List (Greading × Int)), 0) = some (.brk (tb, (m.Rules.length : Int))) ∧ TabOk m tb := by
  have hl := h.len
  have key : ∀ (n k : Nat) (tb : List (Greading × Int)), k + n = m.Rules.length → (∀ i (hi : i < m.Rules.length), i < k → mget tb (keyM m.Rules[i].State m.Rules[i].Read) = some (i : Int)) → (∀ x, (∀ i (hi : i < m.Rules.length), i < k → keyM m.Rules[i].State m.Rules[i].Read ≠ x) → mget tb x = none) →
      ∃ tb', run (tbB (X := X) m) (tb, (k : Int)) = some (.brk (tb', (m.Rules.length : Int))) ∧ TabOk m tb' := by
    intro n
    induction n with
    | zero =>
      intro k tb hk h1 h2
      obtain rfl : k = m.Rules.length := by omega
      refine ⟨tb, run_done ?_, fun i hi => h1 i hi hi, fun x hx => h2 x fun i hi _ => hx i hi⟩
      simp only [tbB]
      rw [decide_eq_false (by omega), cond_false]
    | succ n ih =>
      intro k tb hk h1 h2
      have hlt : k < m.Rules.length := by omega
      have hb : tbB (X := X) m (tb, (k : Int)) = some (.inl (mput tb (keyM m.Rules[k].State m.Rules[k].Read) (k : Int), ((k + 1 : Nat) : Int))) := by
        simp only [tbB]
        rw [decide_eq_true (by omega), cond_true, idx_nat hlt, bnd_some_eq, w64_nat1 (by omega)]
        rfl
      rw [run_next hb]
      refine ih (k + 1) _ (by omega) (fun i hi hik => ?_) (fun x hx => ?_)
      · rw [mget_mput]
        by_cases e : i = k
        · subst e; rw [if_pos rfl]
        · rw [if_neg (fun h' => h.ne k hlt i (by omega) h'.symm)]
          exact h1 i hi (by omega)
      · rw [mget_mput, if_neg (hx k hlt (by omega))]
        exact h2 x fun i hi hik => hx i hi (by omega)
  exact key m.Rules.length 0 [] (by omega) (fun i _ h => by omega) (fun x _ => rfl)
theorem mt_look {m : GMulti} (h : MOk m) {tb : List (Greading × Int)} (ht : TabOk m tb) (c : GMultiConfig) (hc : (c.Tapes.length : Int) = m.Tapes) : mget tb (keyM c.State (c.Tapes.map headMT)) = (ruleIx m c).map fun (i : Nat) => (i : Int) := by
  have hhl : (c.Tapes.map headMT).length = c.Tapes.length := by simp
  have t3 := h.t3
  unfold ruleIx
  cases hq : m.Rules.findIdx? fun r => decide (r.State = c.State) && decide (r.Read = c.Tapes.map headMT) with
  | none =>
    refine ht.2 _ fun i hi h' => ?_
    have e1 := (h.row i hi).1
    obtain ⟨h1, h2⟩ := keyM_inj (by omega) (by omega) h'
    have := List.findIdx?_eq_none_iff.1 hq _ (List.getElem_mem hi)
    rw [h1, h2] at this
    simp at this
  | some i =>
    obtain ⟨hi, hp, _⟩ := List.findIdx?_eq_some_iff_getElem.1 hq
    simp only [Bool.and_eq_true, decide_eq_true_eq] at hp
    show _ = some (i : Int)
    rw [← ht.1 i hi, hp.1, hp.2]
theorem ruleIx_lt {m : GMulti} {c : GMultiConfig} {k : Nat} (h : ruleIx m c = some k) : k < m.Rules.length := (List.findIdx?_eq_some_iff_getElem.1 h).1
/-! ### A step -/
def stepC (r : GMultiRule) (c : GMultiConfig) : Option GMultiConfig := if (tapesM c.Tapes r).all fitT = true then some ⟨r.Next, tapesM c.Tapes r⟩ else none
/-- A configuration that fits a machine. -/
def COk (m : GMulti) (c : GMultiConfig) : Prop := (c.Tapes.length : Int) = m.Tapes ∧ ∀ t ∈ c.Tapes, t.Left.length ≤ 200 ∧ t.Right.length ≤ 200
theorem COk.shrt {m : GMulti} {c : GMultiConfig} (h : MOk m) (hc : COk m c) : Shrt c.Tapes := ⟨by have := h.t3; have := hc.1; omega, hc.2⟩
theorem stepC_ok {m : GMulti} {c c' : GMultiConfig} {r : GMultiRule} (hc : COk m c) (hs : stepC r c = some c') : COk m c' := by
  unfold stepC at hs
  split at hs
  · rename_i hf
    cases hs
    refine ⟨by rw [tapesM_len]; exact hc.1, fun t ht => ?_⟩
    have := List.all_eq_true.1 hf t ht
    unfold fitT at this
    simpa using this
  · cases hs
theorem mt_stepSpec (m : GMulti) (c : GMultiConfig) (s0 : Sml m) (h : MOk m) (hc : COk m c) : F_spec_l06Step m c = some (match ruleIx m c with | none => (⟨0, []⟩, 6) | some k => match stepC (m.Rules.getD k zM) c with | none => (⟨0, []⟩, 5) | some c' => (c', 0)) := by
  have hs := hc.shrt h
  unfold F_spec_l06Step
  rw [mt_ruleS m c s0 (by have := hs.1; omega), bnd_some_eq]
  cases hq : ruleIx m c with
  | none => rfl
  | some k =>
    have hk := ruleIx_lt hq
    obtain ⟨_, hw, hm⟩ := h.row k hk
    have h1 := hc.1
    simp only
    rw [decide_eq_false (by omega), cond_false, idx_nat hk, bnd_some_eq, mt_stepS c m.Rules[k] hs (by omega) (by omega) rfl, bnd_some_eq, mget_rule hk]
    unfold stepC
    split <;> rfl
theorem confM_ok {m : GMulti} {c : GMultiConfig} (hc : confM m c = true) : COk m c := by
  unfold confM at hc
  simp only [Bool.and_eq_true, decide_eq_true_eq, List.all_eq_true] at hc
  refine ⟨hc.1.2, fun t ht => ?_⟩
  have := hc.2 t ht
  unfold tapeMB sideMB at this
  simp only [Bool.and_eq_true, decide_eq_true_eq] at this
  exact ⟨this.1.1.1, this.2.1.1⟩
end Go.Fn
