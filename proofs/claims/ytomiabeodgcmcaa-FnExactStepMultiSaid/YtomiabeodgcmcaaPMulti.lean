/-
  The plain law of MultiRuleAt: machines with several tapes, and the rule of a configuration. No program in sight. No condition.
-/
import Derived.Test.YtomiabeodgcmcaaPDom
import Derived.Test.YtomiabeodgcmcaaLaw
namespace Go.Fn
open Go Go.Tc
/-! ### Order -/
theorem mt_same (a b : List Int) (h : a.length ≤ 1048576) : F_spec_l00Same a b = some (decide (a = b)) := by
  unfold F_spec_l00Same
  by_cases hl : a.length = b.length
  · rw [decide_eq_false (by omega : ¬ (a.length : Int) ≠ (b.length : Int)), cond_false]
    rw [run_all a.length (by omega) (fun i => decide (a[i]? = b[i]?)) (.ret false) (.brk (a.length : Int)) ?_ ?_ ?_]
    · by_cases k : ∀ i, i < a.length → decide (a[i]? = b[i]?) = true
      · rw [if_pos k, bnd_some_eq]
        have : a = b := by
          refine List.ext_getElem? fun i => ?_
          by_cases hi : i < a.length
          · simpa using k i hi
          · rw [List.getElem?_eq_none (by omega), List.getElem?_eq_none (by omega)]
        rw [decide_eq_true this]
        rfl
      · rw [if_neg k, bnd_some_eq]
        have : ¬ a = b := fun e => k fun i _ => by rw [e]; simp
        rw [decide_eq_false this]
        rfl
    · intro i hi hp
      have hi2 : i < b.length := by omega
      simp only [decide_eq_true_eq, List.getElem?_eq_getElem hi, List.getElem?_eq_getElem hi2, Option.some.injEq] at hp
      simp only [F_spec_l00Same_L1]
      rw [decide_eq_true (by omega), cond_true, idx_nat hi, bnd_some_eq, idx_nat hi2, bnd_some_eq, decide_eq_false (by simpa using hp), cond_false]
    · intro i hi hp
      have hi2 : i < b.length := by omega
      simp only [decide_eq_false_iff_not, List.getElem?_eq_getElem hi, List.getElem?_eq_getElem hi2, Option.some.injEq] at hp
      simp only [F_spec_l00Same_L1]
      rw [decide_eq_true (by omega), cond_true, idx_nat hi, bnd_some_eq, idx_nat hi2, bnd_some_eq, decide_eq_true (by simpa using hp), cond_true]
    · simp [F_spec_l00Same_L1]
  · rw [decide_eq_true (by omega : (a.length : Int) ≠ (b.length : Int)), cond_true, decide_eq_false (fun e => hl (by rw [e]))]
def cmpL : List Int → List Int → Int
  | [], [] => 0
  | [], _ :: _ => -1
  | _ :: _, [] => 1
  | a :: as, b :: bs => if a < b then -1 else if b < a then 1 else cmpL as bs
theorem cmpL_self : ∀ a : List Int, cmpL a a = 0
  | [] => rfl
  | x :: a => by rw [cmpL, if_neg (by omega), if_neg (by omega), cmpL_self a]
theorem cmpL_trans : ∀ (a b c : List Int), cmpL a b < 0 → cmpL b c < 0 → cmpL a c < 0
  | [], [], _, h, _ => by simp [cmpL] at h
  | [], _ :: _, [], _, h => by simp [cmpL] at h
  | [], _ :: _, _ :: _, _, _ => by simp [cmpL]
  | _ :: _, [], _, h, _ => by simp [cmpL] at h
  | _ :: _, _ :: _, [], _, h => by simp [cmpL] at h
  | x :: a, y :: b, z :: c, h1, h2 => by
    simp only [cmpL] at h1 h2 ⊢
    by_cases c1 : x < y
    · by_cases c2 : y < z
      · rw [if_pos (by omega)]; omega
      · by_cases c3 : z < y
        · rw [if_neg c2, if_pos c3] at h2; omega
        · rw [if_pos (by omega)]; omega
    · rw [if_neg c1] at h1
      by_cases c4 : y < x
      · rw [if_pos c4] at h1; omega
      · rw [if_neg c4] at h1
        by_cases c2 : y < z
        · rw [if_pos (by omega)]; omega
        · rw [if_neg c2] at h2
          by_cases c3 : z < y
          · rw [if_pos c3] at h2; omega
          · rw [if_neg c3] at h2
            rw [if_neg (by omega), if_neg (by omega)]
            exact cmpL_trans a b c h1 h2
theorem mt_cmpS (a b : List Int) (ha : a.length ≤ 1048576) : F_spec_l01Compare a b = some (cmpL a b) := by
  unfold F_spec_l01Compare
  have key : ∀ (n i : Nat), i + n = a.length → i ≤ b.length → bnd (run (F_spec_l01Compare_L1 a b) (i : Int)) (Out.elim (fun (s1 : Int) => (cond (decide ((a.length : Int) < (b.length : Int))) (some (-1)) (cond (decide ((b.length : Int) < (a.length : Int))) (some 1) (some 0)))) (fun (r : Int) => some r)) = some (cmpL (a.drop i) (b.drop i)) := by
    intro n
    induction n with
    | zero =>
      intro i hi hb
      obtain rfl : i = a.length := by omega
      rw [run_done (x := .brk (a.length : Int)) (by simp [F_spec_l01Compare_L1]), bnd_some_eq, List.drop_length]
      simp only [Out.elim]
      by_cases h : a.length < b.length
      · rw [decide_eq_true (by omega), cond_true, List.drop_eq_getElem_cons h]; rfl
      · rw [decide_eq_false (by omega), cond_false, decide_eq_false (by omega), cond_false, List.drop_eq_nil_of_le (by omega)]; rfl
    | succ n ih =>
      intro i hi hb
      have hlt : i < a.length := by omega
      rw [List.drop_eq_getElem_cons hlt]
      by_cases h : i < b.length
      · rw [List.drop_eq_getElem_cons h]
        have hbody : F_spec_l01Compare_L1 a b (i : Int) = (cond (decide (a[i] < b[i])) (some (.inr (.ret (-1)))) (cond (decide (b[i] < a[i])) (some (.inr (.ret 1))) (some (.inl ((i + 1 : Nat) : Int))))) := by
          simp only [F_spec_l01Compare_L1]
          rw [decide_eq_true (by omega), cond_true, decide_eq_true (by omega), cond_true, idx_nat hlt, bnd_some_eq, idx_nat h, bnd_some_eq, bnd_some_eq, bnd_some_eq, w64_nat1 (by omega)]
        rw [cmpL]
        by_cases c1 : a[i] < b[i]
        · rw [decide_eq_true c1, cond_true] at hbody
          rw [run_done hbody, bnd_some_eq, if_pos c1]; rfl
        · rw [decide_eq_false c1, cond_false] at hbody
          rw [if_neg c1]
          by_cases c2 : b[i] < a[i]
          · rw [decide_eq_true c2, cond_true] at hbody
            rw [run_done hbody, bnd_some_eq, if_pos c2]; rfl
          · rw [decide_eq_false c2, cond_false] at hbody
            rw [run_next hbody, if_neg c2]
            exact ih (i + 1) (by omega) (by omega)
      · have hbody : F_spec_l01Compare_L1 a b (i : Int) = some (.inr (.brk (i : Int))) := by
          simp only [F_spec_l01Compare_L1]
          rw [decide_eq_true (by omega), cond_true, decide_eq_false (by omega), cond_false]
        rw [run_done hbody, bnd_some_eq, List.drop_eq_nil_of_le (by omega : b.length ≤ i)]
        simp only [Out.elim]
        rw [decide_eq_false (by omega), cond_false, decide_eq_true (by omega), cond_true]
        rfl
  exact key a.length 0 (by omega) (Nat.zero_le _)
theorem mt_cmp (x y : Int) : F_cmp_Compare_int64 x y = some (if x < y then -1 else if y < x then 1 else 0) := by
  unfold F_cmp_Compare_int64 F_cmp_isNaN_int64
  simp only [bnd_some_eq]
  rw [decide_eq_false (by simp : ¬ x ≠ x), decide_eq_false (by simp : ¬ y ≠ y), cond_false, cond_false]
  by_cases h1 : x < y
  · rw [decide_eq_true h1, if_pos h1, cond_true]
  · rw [decide_eq_false h1, if_neg h1, cond_false]
    by_cases h2 : y < x
    · rw [decide_eq_true h2, if_pos h2, cond_true]
    · rw [decide_eq_false h2, if_neg h2, cond_false]
theorem mt_cmpI (a b : List Int) (ha : a.length ≤ 1048576) : F_slices_Compare_Sint64_int64 a b = some (cmpL a b) := by
  unfold F_slices_Compare_Sint64_int64
  have key : ∀ (n i : Nat), i + n = a.length → i ≤ b.length → bnd (run (F_slices_Compare_Sint64_int64_L1 a b) (i : Int)) (Out.elim (fun (s1 : Int) => (cond (decide ((a.length : Int) < (b.length : Int))) (some (-1)) (some 0))) (fun (r : Int) => some r)) = some (cmpL (a.drop i) (b.drop i)) := by
    intro n
    induction n with
    | zero =>
      intro i hi hb
      obtain rfl : i = a.length := by omega
      rw [run_done (x := .brk (a.length : Int)) (by simp [F_slices_Compare_Sint64_int64_L1]), bnd_some_eq, List.drop_length]
      simp only [Out.elim]
      by_cases h : a.length < b.length
      · rw [decide_eq_true (by omega), cond_true, List.drop_eq_getElem_cons h]; rfl
      · rw [decide_eq_false (by omega), cond_false, List.drop_eq_nil_of_le (by omega)]; rfl
    | succ n ih =>
      intro i hi hb
      have hlt : i < a.length := by omega
      rw [List.drop_eq_getElem_cons hlt]
      by_cases h : i < b.length
      · rw [List.drop_eq_getElem_cons h]
        have hbody : F_slices_Compare_Sint64_int64_L1 a b (i : Int) = (cond (decide ((if a[i] < b[i] then -1 else if b[i] < a[i] then 1 else 0 : Int) ≠ 0)) (some (.inr (.ret (if a[i] < b[i] then -1 else if b[i] < a[i] then 1 else 0)))) (some (.inl ((i + 1 : Nat) : Int)))) := by
          simp only [F_slices_Compare_Sint64_int64_L1]
          rw [decide_eq_true (by omega), cond_true, idx_nat hlt, bnd_some_eq, decide_eq_false (by omega), cond_false, idx_nat h, bnd_some_eq, mt_cmp, bnd_some_eq, w64_nat1 (by omega)]
        rw [cmpL]
        by_cases c1 : a[i] < b[i]
        · rw [if_pos c1, decide_eq_true (by omega), cond_true] at hbody
          rw [run_done hbody, bnd_some_eq, if_pos c1]; rfl
        · rw [if_neg c1] at hbody ⊢
          by_cases c2 : b[i] < a[i]
          · rw [if_pos c2, decide_eq_true (by omega), cond_true] at hbody
            rw [run_done hbody, bnd_some_eq, if_pos c2]; rfl
          · rw [if_neg c2, decide_eq_false (by omega), cond_false] at hbody
            rw [run_next hbody, if_neg c2]
            exact ih (i + 1) (by omega) (by omega)
      · have hbody : F_slices_Compare_Sint64_int64_L1 a b (i : Int) = some (.inr (.ret 1)) := by
          simp only [F_slices_Compare_Sint64_int64_L1]
          rw [decide_eq_true (by omega), cond_true, idx_nat hlt, bnd_some_eq, decide_eq_true (by omega), cond_true]
        rw [run_done hbody, bnd_some_eq, List.drop_eq_nil_of_le (by omega : b.length ≤ i)]
        rfl
  exact key a.length 0 (by omega) (Nat.zero_le _)

/-! ### Valid machines -/
def rowMN (xs : List Int) (n lo hi : Int) : Bool := decide ((xs.length : Int) = n) && xs.all fun x => inB x lo hi
theorem spec_mrow (xs : List Int) (n lo hi : Int) (h : xs.length ≤ 1048576) : F_spec_l06Row xs n lo hi = some (rowMN xs n lo hi) := by
  unfold F_spec_l06Row rowMN
  by_cases hn : (xs.length : Int) = n
  · rw [decide_eq_false (by simpa using hn), cond_false, decide_eq_true hn, Bool.true_and, run_allp xs (by omega) (fun x => inB x lo hi) (.ret false) (.brk (xs.length : Int)) (fun i hi' => by
      simp only [F_spec_l06Row_L1, Int.ofNat_lt, hi', decide_true, cond_true, idx_nat hi', bnd_some_eq, spec_in]
      cases inB xs[i] lo hi <;> rfl) (by simp [F_spec_l06Row_L1])]
    cases xs.all fun x => inB x lo hi <;> rfl
  · rw [decide_eq_true (show (xs.length : Int) ≠ n from hn), cond_true, decide_eq_false hn, Bool.false_and]
def befB (a b : GMultiRule) : Bool := decide (a.State < b.State) || (decide (a.State = b.State) && decide (cmpL a.Read b.Read < 0))
theorem mt_befS (a b : GMultiRule) (h : a.Read.length ≤ 1048576) : F_spec_l06Before a b = some (befB a b) := by
  unfold F_spec_l06Before befB
  rw [mt_cmpS _ _ h]
  cases decide (a.State < b.State)
  · cases decide (a.State = b.State) <;> rfl
  · rfl
theorem mt_befI (a b : GMultiRule) (h : a.Read.length ≤ 1048576) : ∃ c, F_impl_compareMultiRules a b = some c ∧ decide (0 ≤ c) = !befB a b := by
  unfold F_impl_compareMultiRules befB
  rw [mt_cmpI _ _ h]
  by_cases h1 : a.State = b.State
  · rw [decide_eq_false (by simpa using h1), cond_false, decide_eq_true h1, decide_eq_false (by omega : ¬ a.State < b.State)]
    refine ⟨_, rfl, ?_⟩
    by_cases h2 : cmpL a.Read b.Read < 0
    · rw [decide_eq_true h2, decide_eq_false (by omega)]; rfl
    · rw [decide_eq_false h2, decide_eq_true (by omega)]; rfl
  · rw [decide_eq_true (show a.State ≠ b.State from h1), cond_true, decide_eq_false h1]
    by_cases h2 : a.State < b.State
    · rw [decide_eq_true h2, cond_true]; exact ⟨_, rfl, rfl⟩
    · rw [decide_eq_false h2, cond_false]; exact ⟨_, rfl, rfl⟩
theorem befB_trans {a b c : GMultiRule} (h1 : befB a b = true) (h2 : befB b c = true) : befB a c = true := by
  unfold befB at *
  simp only [Bool.or_eq_true, Bool.and_eq_true, decide_eq_true_eq] at *
  rcases h1 with h1 | ⟨h1, h1'⟩ <;> rcases h2 with h2 | ⟨h2, h2'⟩
  · left; omega
  · left; omega
  · left; omega
  · right; exact ⟨by omega, cmpL_trans _ _ _ h1' h2'⟩
def mruleB (m : GMulti) (r : GMultiRule) : Bool := inB r.State 0 (w64 (m.States - 1)) && inB r.Next 0 (w64 (m.States - 1)) && (rowMN r.Read m.Tapes 0 (w64 (m.Symbols - 1)) && rowMN r.Write m.Tapes 0 (w64 (m.Symbols - 1)) && rowMN r.Move m.Tapes (-1) 1)
def zM : GMultiRule := ⟨0, [], [], [], 0⟩
def okMR (m : GMulti) (i : Nat) : Bool := mruleB m (m.Rules.getD i zM) && (decide (i = 0) || befB (m.Rules.getD (i - 1) zM) (m.Rules.getD i zM))
def headMM (m : GMulti) : Bool := inB m.Tapes 2 3 && inB m.Symbols 2 3 && inB m.States 1 16 && decide (m.Rules.length ≤ 60)
theorem mget_rule {m : GMulti} {i : Nat} (h : i < m.Rules.length) : m.Rules.getD i zM = m.Rules[i] := by rw [List.getD_eq_getElem?_getD, List.getElem?_eq_getElem h]; rfl
open Classical in
noncomputable def multiB (m : GMulti) : Bool := headMM m && decide (∀ i, i < m.Rules.length → okMR m i = true)
theorem mt_spec (m : GMulti) (s0 : Sml m) : F_spec_l06Is m = some (multiB m) := by
  have s0 : Sml m.Rules := s0
  unfold F_spec_l06Is multiB headMM
  simp only [spec_in, bnd_some_eq]
  cases inB m.Tapes 2 3
  · rfl
  cases inB m.Symbols 2 3
  · rfl
  cases inB m.States 1 16
  · rfl
  simp only [Bool.not_true, cond_false, Bool.true_and]
  by_cases hl : m.Rules.length ≤ 60
  · rw [decide_eq_false (by omega), decide_eq_true hl]
    simp only [cond_false, bnd_some_eq, Out.elim, Bool.true_and]
    have hround : ∀ i (hi : i < m.Rules.length), F_spec_l06Is_L1 m (i : Int) = some (cond (okMR m i) (.inl (w64 ((i : Int) + 1))) (.inr (.ret false))) := fun i hi => by
      have hs := s0.mem hi
      have e1 := hs.1.1
      have e2 := hs.2.1.1
      have e3 := hs.2.2.1
      unfold okMR mruleB
      rw [mget_rule hi]
      simp only [F_spec_l06Is_L1, Int.ofNat_lt, hi, decide_true, cond_true, idx_nat hi, bnd_some_eq, spec_in, spec_mrow _ _ _ _ e1, spec_mrow _ _ _ _ e2, spec_mrow _ _ _ _ e3]
      cases inB m.Rules[i].State 0 (w64 (m.States - 1))
      · rfl
      cases inB m.Rules[i].Next 0 (w64 (m.States - 1))
      · rfl
      cases rowMN m.Rules[i].Read m.Tapes 0 (w64 (m.Symbols - 1))
      · rfl
      cases rowMN m.Rules[i].Write m.Tapes 0 (w64 (m.Symbols - 1))
      · rfl
      cases rowMN m.Rules[i].Move m.Tapes (-1) 1
      · rfl
      simp only [Bool.not_true, cond_false, bnd_some_eq, Out.elim, Bool.true_and]
      by_cases h0 : i = 0
      · subst h0
        rfl
      · have hi1 : i - 1 < m.Rules.length := by omega
        rw [decide_eq_true (by omega : (0 : Int) < (i : Int)), cond_true, decide_eq_false h0, Bool.false_or, mget_rule hi1, w64_in (by omega) (by omega), show ((i : Int) - 1) = ((i - 1 : Nat) : Int) by omega, idx_nat hi1, bnd_some_eq, mt_befS _ _ (s0.mem hi1).1.1, bnd_some_eq]
        cases befB m.Rules[i - 1] m.Rules[i] <;> rfl
    rw [run_all m.Rules.length (by omega) (okMR m) (.ret false) (.brk (m.Rules.length : Int)) (fun i hi hp => by rw [hround i hi, hp]; rfl) (fun i hi hp => by rw [hround i hi, hp]; rfl) (by simp [F_spec_l06Is_L1])]
    by_cases k : ∀ i, i < m.Rules.length → okMR m i = true
    · rw [if_pos k, decide_eq_true k]; rfl
    · rw [if_neg k, decide_eq_false k]; rfl
  · rw [decide_eq_true (by omega), decide_eq_false hl]
    rfl
theorem mt_rowN (xs : List Int) (n lo hi : Int) (h : xs.length ≤ 1048576) : F_impl_allWithin xs lo hi = some (xs.all fun x => inB x lo hi) := impl_allWithin xs lo hi h
theorem mt_rule (m : GMulti) (r : GMultiRule) (e1 : r.Read.length ≤ 1048576) (e2 : r.Write.length ≤ 1048576) (e3 : r.Move.length ≤ 1048576) : F_impl_validMultiRule m r = some (mruleB m r) := by
  unfold F_impl_validMultiRule mruleB rowMN F_impl_size_int64
  simp only [impl_in, impl_allWithin _ _ _ e1, impl_allWithin _ _ _ e2, impl_allWithin _ _ _ e3, bnd_some_eq]
  cases inB r.State 0 (w64 (m.States - 1))
  · rfl
  cases inB r.Next 0 (w64 (m.States - 1))
  · rfl
  simp only [Bool.not_true, cond_false, bnd_some_eq, Out.elim, Bool.true_and]
  by_cases h1 : (r.Read.length : Int) = m.Tapes
  · by_cases h2 : (r.Write.length : Int) = m.Tapes
    · by_cases h3 : (r.Move.length : Int) = m.Tapes
      · simp only [h1, h2, h3, ne_eq, not_true_eq_false, decide_false, decide_true, cond_false, bnd_some_eq, Out.elim, Bool.true_and]
        cases r.Read.all fun x => inB x 0 (w64 (m.Symbols - 1))
        · rfl
        cases r.Write.all fun x => inB x 0 (w64 (m.Symbols - 1))
        · rfl
        rfl
      · rw [decide_eq_false (by simpa using h1), decide_eq_false (by simpa using h2), decide_eq_true (show (r.Move.length : Int) ≠ m.Tapes from h3), decide_eq_false h3]
        simp [Out.elim]
    · rw [decide_eq_false (by simpa using h1), decide_eq_true (show (r.Write.length : Int) ≠ m.Tapes from h2), decide_eq_false h2]
      simp [Out.elim]
  · rw [decide_eq_true (show (r.Read.length : Int) ≠ m.Tapes from h1), decide_eq_false h1]
    simp [Out.elim]
theorem mt_impl (m : GMulti) (s0 : Sml m) : F_impl_ValidMulti m = some (multiB m) := by
  have s0 : Sml m.Rules := s0
  unfold F_impl_ValidMulti multiB headMM
  simp only [impl_in, bnd_some_eq]
  cases inB m.Tapes 2 3
  · rfl
  cases inB m.Symbols 2 3
  · rfl
  cases inB m.States 1 16
  · rfl
  simp only [Bool.not_true, cond_false, Bool.true_and]
  by_cases hl : m.Rules.length ≤ 60
  · rw [decide_eq_false (by omega), decide_eq_true hl]
    simp only [cond_false, bnd_some_eq, Out.elim, Bool.true_and]
    have hround : ∀ i (hi : i < m.Rules.length), F_impl_ValidMulti_L1 m (i : Int) = some (cond (okMR m i) (.inl (w64 ((i : Int) + 1))) (.inr (.ret false))) := fun i hi => by
      have hs := s0.mem hi
      unfold okMR
      rw [mget_rule hi]
      simp only [F_impl_ValidMulti_L1, Int.ofNat_lt, hi, decide_true, cond_true, idx_nat hi, bnd_some_eq, mt_rule m _ hs.1.1 hs.2.1.1 hs.2.2.1]
      cases mruleB m m.Rules[i]
      · rfl
      simp only [Bool.not_true, cond_false, Bool.true_and]
      by_cases h0 : i = 0
      · subst h0
        rfl
      · have hi1 : i - 1 < m.Rules.length := by omega
        obtain ⟨c, hc, hd⟩ := mt_befI m.Rules[i - 1] m.Rules[i] (s0.mem hi1).1.1
        rw [decide_eq_true (by omega : (0 : Int) < (i : Int)), cond_true, decide_eq_false h0, Bool.false_or, mget_rule hi1, w64_in (by omega) (by omega), show ((i : Int) - 1) = ((i - 1 : Nat) : Int) by omega, idx_nat hi1, bnd_some_eq, hc, bnd_some_eq, hd]
        cases befB m.Rules[i - 1] m.Rules[i] <;> rfl
    rw [run_all m.Rules.length (by omega) (okMR m) (.ret false) (.brk (m.Rules.length : Int)) (fun i hi hp => by rw [hround i hi, hp]; rfl) (fun i hi hp => by rw [hround i hi, hp]; rfl) (by simp [F_impl_ValidMulti_L1])]
    by_cases k : ∀ i, i < m.Rules.length → okMR m i = true
    · rw [if_pos k, decide_eq_true k]; rfl
    · rw [if_neg k, decide_eq_false k]; rfl
  · rw [decide_eq_true (by omega), decide_eq_false hl]
    rfl
/-! ### Valid configurations -/
def sideMB (xs : List Int) (s : Int) : Bool := decide (xs.length ≤ 200) && (xs.all fun x => inB x 0 (w64 (s - 1))) && (decide (xs.length = 0) || decide (xs.getLastD 0 ≠ 0))
theorem idx_lastD {xs : List Int} (h0 : xs.length ≠ 0) (h : xs.length ≤ 1048576) : idx xs (w64 ((xs.length : Int) - 1)) = some (xs.getLastD 0) := by
  rw [w64_in (by omega) (by omega), show (xs.length : Int) - 1 = ((xs.length - 1 : Nat) : Int) by omega, idx_nat (by omega)]
  rw [List.getLastD_eq_getLast?, List.getLast?_eq_getElem?, List.getElem?_eq_getElem (by omega)]
  rfl
theorem mt_sideS (xs : List Int) (s : Int) (h : xs.length ≤ 1048576) : F_spec_l06Side xs s = some (sideMB xs s) := by
  unfold F_spec_l06Side sideMB
  by_cases hl : xs.length ≤ 200
  · rw [decide_eq_false (by omega), cond_false, decide_eq_true hl, Bool.true_and, run_allp xs (by omega) (fun x => inB x 0 (w64 (s - 1))) (.ret false) (.brk (xs.length : Int)) (fun i hi' => by
      simp only [F_spec_l06Side_L1, Int.ofNat_lt, hi', decide_true, cond_true, idx_nat hi', bnd_some_eq, spec_in]
      cases inB xs[i] 0 (w64 (s - 1)) <;> rfl) (by simp [F_spec_l06Side_L1])]
    cases xs.all fun x => inB x 0 (w64 (s - 1))
    · rfl
    simp only [cond_true, bnd_some_eq, Out.elim, Bool.true_and]
    by_cases h0 : xs.length = 0
    · rw [decide_eq_true (by omega), decide_eq_true h0]; rfl
    · rw [decide_eq_false (by omega), decide_eq_false h0, cond_false, idx_lastD h0 h]; rfl
  · rw [decide_eq_true (by omega), decide_eq_false hl]; rfl
theorem mt_sideI (xs : List Int) (s : Int) (h : xs.length ≤ 1048576) : F_impl_validSide xs s 200 = some (sideMB xs s) := by
  unfold F_impl_validSide sideMB F_impl_size_int64
  simp only [bnd_some_eq, impl_allWithin _ _ _ h]
  by_cases hl : xs.length ≤ 200
  · rw [decide_eq_true (by omega), cond_true, decide_eq_true hl, Bool.true_and]
    cases xs.all fun x => inB x 0 (w64 (s - 1))
    · rfl
    simp only [cond_true, Bool.true_and]
    by_cases h0 : xs.length = 0
    · rw [decide_eq_true (by omega), decide_eq_true h0]; rfl
    · rw [decide_eq_false (by omega), decide_eq_false h0, cond_false, idx_lastD h0 h]; rfl
  · rw [decide_eq_false (by omega), decide_eq_false hl]; rfl
def tapeMB (m : GMulti) (t : GTape) : Bool := sideMB t.Left m.Symbols && sideMB t.Right m.Symbols
def confM (m : GMulti) (c : GMultiConfig) : Bool := inB c.State 0 (w64 (m.States - 1)) && decide ((c.Tapes.length : Int) = m.Tapes) && c.Tapes.all (tapeMB m)
theorem mt_good (m : GMulti) (c : GMultiConfig) (s1 : Sml c) : F_spec_l06Good m c = some (confM m c) := by
  have s1 : Sml c.Tapes := s1
  have hl := s1.1
  unfold F_spec_l06Good confM
  simp only [spec_in, bnd_some_eq]
  cases inB c.State 0 (w64 (m.States - 1))
  · rfl
  simp only [Bool.not_true, cond_false, Bool.true_and]
  by_cases hn : (c.Tapes.length : Int) = m.Tapes
  · rw [decide_eq_false (by simpa using hn), decide_eq_true hn]
    simp only [cond_false, bnd_some_eq, Out.elim, Bool.true_and]
    rw [run_allp c.Tapes (by omega) (tapeMB m) (.ret false) (.brk (c.Tapes.length : Int)) (fun i hi' => by
      have hs := s1.mem hi'
      have e1 := hs.1.1
      have e2 := hs.2.1
      unfold tapeMB
      simp only [F_spec_l06Good_L1, Int.ofNat_lt, hi', decide_true, cond_true, idx_nat hi', bnd_some_eq, mt_sideS _ _ e1, mt_sideS _ _ e2]
      cases sideMB c.Tapes[i].Left m.Symbols
      · rfl
      cases sideMB c.Tapes[i].Right m.Symbols <;> rfl) (by simp [F_spec_l06Good_L1])]
    cases c.Tapes.all (tapeMB m) <;> rfl
  · rw [decide_eq_true (show (c.Tapes.length : Int) ≠ m.Tapes from hn), decide_eq_false hn]; rfl
theorem mt_config (m : GMulti) (c : GMultiConfig) (s0 : Sml m) (s1 : Sml c) : F_impl_ValidMultiConfig m c = some (multiB m && confM m c) := by
  have s1' : Sml c.Tapes := s1
  have hl := s1'.1
  unfold F_impl_ValidMultiConfig confM F_impl_size_impl_Tape F_slices_ContainsFunc_Simpl_Tape_impl_Tape F_slices_IndexFunc_Simpl_Tape_impl_Tape
  rw [mt_impl m s0, bnd_some_eq]
  cases multiB m
  · rfl
  simp only [impl_in, bnd_some_eq, Bool.not_true, cond_false, Bool.true_and]
  cases inB c.State 0 (w64 (m.States - 1))
  · rfl
  simp only [Bool.not_true, cond_false, Bool.true_and]
  by_cases hn : (c.Tapes.length : Int) = m.Tapes
  · rw [decide_eq_false (by simpa using hn), decide_eq_true hn, cond_false, run_find c.Tapes (by omega) (fun t => !tapeMB m t) (fun i hi' => by
      have hs := s1'.mem hi'
      have e1 := hs.1.1
      have e2 := hs.2.1
      unfold tapeMB
      simp only [F_slices_IndexFunc_Simpl_Tape_impl_Tape_L1, F_impl_ValidMultiConfig_1, F_impl_validTape, Int.ofNat_lt, hi', decide_true, cond_true, idx_nat hi', bnd_some_eq, mt_sideI _ _ e1, mt_sideI _ _ e2]
      cases sideMB c.Tapes[i].Left m.Symbols
      · rfl
      cases sideMB c.Tapes[i].Right m.Symbols <;> rfl) (by simp [F_slices_IndexFunc_Simpl_Tape_impl_Tape_L1])]
    simp only [bnd_some_eq, Bool.true_and]
    rw [find_any, any_not]
  · rw [decide_eq_true (show (c.Tapes.length : Int) ≠ m.Tapes from hn), decide_eq_false hn]; rfl
/-! ### The rule -/
def headMT (t : GTape) : Int := t.Right.headD 0
theorem mt_head (t : GTape) : F_spec_l06Head t = some (headMT t) := by
  unfold F_spec_l06Head headMT
  cases h : t.Right with
  | nil => rfl
  | cons x xs =>
    rw [decide_eq_false (by simp; omega), cond_false]
    rfl
def keyM (s : Int) (r : List Int) : Greading := ⟨s, r.getD 0 0, r.getD 1 0, r.getD 2 0⟩
theorem keyM_inj {s s' : Int} {r r' : List Int} (hl : r.length = r'.length) (h3 : r.length ≤ 3) (h : keyM s r = keyM s' r') : s = s' ∧ r = r' := by
  unfold keyM at h
  simp only [Greading.mk.injEq] at h
  obtain ⟨h0, h1, h2, h4⟩ := h
  refine ⟨h0, List.ext_getElem hl fun i hi hi' => ?_⟩
  have : i < 3 := by omega
  have g : ∀ k, k < r.length → k < r'.length → r.getD k 0 = r'.getD k 0 → r[k]? = r'[k]? := fun k hk hk' e => by
    rw [List.getD_eq_getElem?_getD, List.getD_eq_getElem?_getD, List.getElem?_eq_getElem hk, List.getElem?_eq_getElem hk'] at e
    rw [List.getElem?_eq_getElem hk, List.getElem?_eq_getElem hk']
    simpa using e
  have key : r[i]? = r'[i]? := by
    match i, this with
    | 0, _ => exact g 0 hi hi' h1
    | 1, _ => exact g 1 hi hi' h2
    | 2, _ => exact g 2 hi hi' h4
  rw [List.getElem?_eq_getElem hi, List.getElem?_eq_getElem hi'] at key
  simpa using key
theorem mt_heads (c : GMultiConfig) (hl : c.Tapes.length ≤ 1048576) : run (F_spec_l06Rule_L1 c) (([] : List Int), 0) = some (.brk (c.Tapes.map headMT, (c.Tapes.length : Int))) := by
  have key : ∀ (n i : Nat) (out : List Int), i + n = c.Tapes.length → out = (c.Tapes.take i).map headMT → run (F_spec_l06Rule_L1 c) (out, (i : Int)) = some (.brk (c.Tapes.map headMT, (c.Tapes.length : Int))) := by
    intro n
    induction n with
    | zero =>
      intro i out hi ho
      obtain rfl : i = c.Tapes.length := by omega
      rw [List.take_length] at ho
      refine run_done ?_
      simp only [F_spec_l06Rule_L1]
      rw [decide_eq_false (by omega), cond_false, ho]
    | succ n ih =>
      intro i out hi ho
      have hlt : i < c.Tapes.length := by omega
      have hol : out.length = i := by rw [ho]; simp; omega
      have hb : F_spec_l06Rule_L1 c (out, (i : Int)) = some (.inl (out ++ [headMT c.Tapes[i]], ((i + 1 : Nat) : Int))) := by
        simp only [F_spec_l06Rule_L1]
        rw [decide_eq_true (by omega), cond_true, idx_nat hlt, bnd_some_eq, mt_head, bnd_some_eq, app_ok (by simp; omega), bnd_some_eq, w64_nat1 (by omega)]
      rw [run_next hb]
      refine ih (i + 1) _ (by omega) ?_
      rw [List.take_add_one, List.getElem?_eq_getElem hlt, List.map_append, ho]
      rfl
  exact key c.Tapes.length 0 [] (by omega) (by simp)
theorem mt_read {c : GMultiConfig} (h2 : 2 ≤ c.Tapes.length) (h3 : c.Tapes.length ≤ 3) : F_impl_MultiConfig_read c = some (keyM c.State (c.Tapes.map headMT)) := by
  have step : ∀ (k : Nat) (hk : k < c.Tapes.length) (a b d : Int), (k = 0 → a = 0) → (k = 1 → b = 0) → (k = 2 → d = 0) →
      F_impl_MultiConfig_read_L1 c (a, b, d, (k : Int)) = some (.inl ((if k = 0 then headMT c.Tapes[k] else a), (if k = 1 then headMT c.Tapes[k] else b), (if k = 2 then headMT c.Tapes[k] else d), ((k + 1 : Nat) : Int))) := by
    intro k hk a b d ha hb hd
    simp only [F_impl_MultiConfig_read_L1]
    rw [decide_eq_true (by omega), cond_true, idx_nat hk, bnd_some_eq, w64_nat1 (by omega)]
    unfold headMT
    have hk3 : k < 3 := by omega
    cases hr : c.Tapes[k].Right with
    | nil =>
      simp only [List.length_nil]
      rw [decide_eq_false (by simp), cond_false]
      simp only [List.headD_nil]
      match k, hk3 with
      | 0, _ => rw [ha rfl]; rfl
      | 1, _ => rw [hb rfl]; rfl
      | 2, _ => rw [hd rfl]; rfl
    | cons x xs =>
      rw [decide_eq_true (by simp), cond_true]
      have e0 : idx (x :: xs) 0 = some x := rfl
      rw [e0, bnd_some_eq]
      match k, hk3 with
      | 0, _ => rfl
      | 1, _ => rfl
      | 2, _ => rfl
  have fin : ∀ a b d : Int, F_impl_MultiConfig_read_L1 c (a, b, d, (c.Tapes.length : Int)) = some (.inr (.brk (a, b, d, (c.Tapes.length : Int)))) := fun a b d => by
    simp only [F_impl_MultiConfig_read_L1]
    rw [decide_eq_false (by omega), cond_false]
  unfold F_impl_MultiConfig_read
  have finN : ∀ (q : Nat), c.Tapes.length = q → ∀ a b d : Int, F_impl_MultiConfig_read_L1 c (a, b, d, (q : Int)) = some (.inr (.brk (a, b, d, (q : Int)))) := fun q h a b d => by
    subst h
    exact fin a b d
  have hg : ∀ k (hk : k < c.Tapes.length), (c.Tapes.map headMT).getD k 0 = headMT c.Tapes[k] := fun k hk => by
    rw [List.getD_eq_getElem?_getD, List.getElem?_map, List.getElem?_eq_getElem hk]; rfl
  have hn : ∀ k, c.Tapes.length ≤ k → (c.Tapes.map headMT).getD k 0 = 0 := fun k hk => by
    rw [List.getD_eq_getElem?_getD, List.getElem?_map, List.getElem?_eq_none hk]; rfl
  have e0 : run (F_impl_MultiConfig_read_L1 c) (0, 0, 0, 0) = run (F_impl_MultiConfig_read_L1 c) (headMT c.Tapes[0], 0, 0, 1) := run_next (step 0 (by omega) 0 0 0 (fun _ => rfl) (fun _ => rfl) (fun _ => rfl))
  have e1 : run (F_impl_MultiConfig_read_L1 c) (headMT c.Tapes[0], 0, 0, 1) = run (F_impl_MultiConfig_read_L1 c) (headMT c.Tapes[0], headMT c.Tapes[1], 0, 2) := run_next (step 1 (by omega) _ 0 0 (fun h => by cases h) (fun _ => rfl) (fun h => by cases h))
  unfold keyM
  rw [hg 0 (by omega), hg 1 (by omega), e0, e1]
  by_cases h : c.Tapes.length = 2
  · have f := finN 2 h (headMT c.Tapes[0]) (headMT c.Tapes[1]) 0
    have e2 : run (F_impl_MultiConfig_read_L1 c) (headMT c.Tapes[0], headMT c.Tapes[1], 0, 2) = some (.brk (headMT c.Tapes[0], headMT c.Tapes[1], 0, 2)) := run_done f
    rw [e2, hn 2 (by omega)]
    rfl
  · have h' : c.Tapes.length = 3 := by omega
    have e2 : run (F_impl_MultiConfig_read_L1 c) (headMT c.Tapes[0], headMT c.Tapes[1], 0, 2) = run (F_impl_MultiConfig_read_L1 c) (headMT c.Tapes[0], headMT c.Tapes[1], headMT c.Tapes[2], 3) := run_next (step 2 (by omega) _ _ 0 (fun h => by cases h) (fun h => by cases h) (fun _ => rfl))
    have f := finN 3 h' (headMT c.Tapes[0]) (headMT c.Tapes[1]) (headMT c.Tapes[2])
    have e3 : run (F_impl_MultiConfig_read_L1 c) (headMT c.Tapes[0], headMT c.Tapes[1], headMT c.Tapes[2], 3) = some (.brk (headMT c.Tapes[0], headMT c.Tapes[1], headMT c.Tapes[2], 3)) := run_done f
    rw [e2, e3, hg 2 (by omega)]
    rfl
/-- The table of rules. -/
theorem mt_table {m : GMulti} (hl : m.Rules.length ≤ 60) (hd : ∀ i (hi : i < m.Rules.length) j (hj : j < i), keyM m.Rules[j].State m.Rules[j].Read ≠ keyM m.Rules[i].State m.Rules[i].Read) :
    ∃ tb, run (F_impl_MultiRuleAt_L1 m) (([] : List (Greading × Int)), 0) = some (.brk (tb, (m.Rules.length : Int))) ∧ (∀ i (hi : i < m.Rules.length), mget tb (keyM m.Rules[i].State m.Rules[i].Read) = some (i : Int)) ∧ ∀ x, (∀ i (hi : i < m.Rules.length), keyM m.Rules[i].State m.Rules[i].Read ≠ x) → mget tb x = none := by
  have key : ∀ (n k : Nat) (tb : List (Greading × Int)), k + n = m.Rules.length → (∀ i (hi : i < m.Rules.length), i < k → mget tb (keyM m.Rules[i].State m.Rules[i].Read) = some (i : Int)) → (∀ x, (∀ i (hi : i < m.Rules.length), i < k → keyM m.Rules[i].State m.Rules[i].Read ≠ x) → mget tb x = none) →
      ∃ tb', run (F_impl_MultiRuleAt_L1 m) (tb, (k : Int)) = some (.brk (tb', (m.Rules.length : Int))) ∧ (∀ i (hi : i < m.Rules.length), mget tb' (keyM m.Rules[i].State m.Rules[i].Read) = some (i : Int)) ∧ ∀ x, (∀ i (hi : i < m.Rules.length), keyM m.Rules[i].State m.Rules[i].Read ≠ x) → mget tb' x = none := by
    intro n
    induction n with
    | zero =>
      intro k tb hk h1 h2
      obtain rfl : k = m.Rules.length := by omega
      refine ⟨tb, run_done ?_, fun i hi => h1 i hi hi, fun x hx => h2 x fun i hi _ => hx i hi⟩
      simp only [F_impl_MultiRuleAt_L1]
      rw [decide_eq_false (by omega), cond_false]
    | succ n ih =>
      intro k tb hk h1 h2
      have hlt : k < m.Rules.length := by omega
      have hb : F_impl_MultiRuleAt_L1 m (tb, (k : Int)) = some (.inl (mput tb (keyM m.Rules[k].State m.Rules[k].Read) (k : Int), ((k + 1 : Nat) : Int))) := by
        simp only [F_impl_MultiRuleAt_L1]
        rw [decide_eq_true (by omega), cond_true, idx_nat hlt, bnd_some_eq, w64_nat1 (by omega)]
        rfl
      rw [run_next hb]
      refine ih (k + 1) _ (by omega) (fun i hi hik => ?_) (fun x hx => ?_)
      · rw [mget_mput]
        by_cases e : i = k
        · subst e; rw [if_pos rfl]
        · rw [if_neg (fun h => hd k hlt i (by omega) h.symm)]
          exact h1 i hi (by omega)
      · rw [mget_mput, if_neg (hx k hlt (by omega))]
        exact h2 x fun i hi hik => hx i hi (by omega)
  exact key m.Rules.length 0 [] (by omega) (fun i _ h => by omega) (fun x _ => rfl)
end Go.Fn
