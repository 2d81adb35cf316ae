/-
  The plain law of MultiRuleAt: machines with several tapes, and the rule of a configuration. No program in sight. No condition.
-/
import Derived.Test.YtafjflnnkdbmdaaPDom
import Derived.Test.YtafjflnnkdbmdaaLaw
namespace Go.Fn
open Go Go.Tc
/-! ### Order -/
theorem mt_same (a b : List Int) (h : a.length ≤ 1048576) : F_spec_l00Same a b = some (decide (a = b)) := by
  unfold F_spec_l00Same
  by_cases hl : a.length = b.length
  · rw [decide_eq_false (by omega : ¬ (a.length : Int) ≠ (b.length : Int)), cond_false]
    rw [run_all a.length (by omega) (fun i => decide (a[i]? = b[i]?)) (.ret false) (.brk (a.length : Int)) ?_ ?_ ?_]
    · by_cases k : ∀ i, i < a.length → decide (a[i]? = b[i]?) = true
      · rw [if_pos k, bnd_some_eq]
        have : a = b := by
          refine List.ext_getElem? fun i => ?_
          by_cases hi : i < a.length
          · simpa using k i hi
          · rw [List.getElem?_eq_none (by omega), List.getElem?_eq_none (by omega)]
        rw [decide_eq_true this]
        rfl
      · rw [if_neg k, bnd_some_eq]
        have : ¬ a = b := fun e => k fun i _ => by rw [e]; simp
        rw [decide_eq_false this]
        rfl
    · intro i hi hp
      have hi2 : i < b.length := by omega
      simp only [decide_eq_true_eq, List.getElem?_eq_getElem hi, List.getElem?_eq_getElem hi2, Option.some.injEq] at hp
      simp only [F_spec_l00Same_L1]
      rw [decide_eq_true (by omega), cond_true, idx_nat hi, bnd_some_eq, idx_nat hi2, bnd_some_eq, decide_eq_false (by simpa using hp), cond_false]
    · intro i hi hp
      have hi2 : i < b.length := by omega
      simp only [decide_eq_false_iff_not, List.getElem?_eq_getElem hi, List.getElem?_eq_getElem hi2, Option.some.injEq] at hp
      simp only [F_spec_l00Same_L1]
      rw [decide_eq_true (by omega), cond_true, idx_nat hi, bnd_some_eq, idx_nat hi2, bnd_some_eq, decide_eq_true (by simpa using hp), cond_true]
    · simp [F_spec_l00Same_L1]
  · rw [decide_eq_true (by omega : (a.length : Int) ≠ (b.length : Int)), cond_true, decide_eq_false (fun e => hl (by rw [e]))]
def cmpL : List Int → List Int → Int
  | [], [] => 0
  | [], _ :: _ => -1
  | _ :: _, [] => 1
  | a :: as, b :: bs => if a < b then -1 else if b < a then 1 else cmpL as bs
theorem cmpL_self : ∀ a : List Int, cmpL a a = 0
  | [] => rfl
  | x :: a => by rw [cmpL, if_neg (by omega), if_neg (by omega), cmpL_self a]
theorem cmpL_trans : ∀ (a b c : List Int), cmpL a b < 0 → cmpL b c < 0 → cmpL a c < 0
  | [], [], _, h, _ => by simp [cmpL] at h
  | [], _ :: _, [], _, h => by simp [cmpL] at h
  | [], _ :: _, _ :: _, _, _ => by simp [cmpL]
  | _ :: _, [], _, h, _ => by simp [cmpL] at h
  | _ :: _, _ :: _, [], _, h => by simp [cmpL] at h
  | x :: a, y :: b, z :: c, h1, h2 => by
    simp only [cmpL] at h1 h2 ⊢
    by_cases c1 : x < y
    · by_cases c2 : y < z
      · rw [if_pos (by omega)]; omega
      · by_cases c3 : z < y
        · rw [if_neg c2, if_pos c3] at h2; omega
        · rw [if_pos (by omega)]; omega
    · rw [if_neg c1] at h1
      by_cases c4 : y < x
      · rw [if_pos c4] at h1; omega
      · rw [if_neg c4] at h1
        by_cases c2 : y < z
        · rw [if_pos (by omega)]; omega
        · rw [if_neg c2] at h2
          by_cases c3 : z < y
          · rw [if_pos c3] at h2; omega
          · rw [if_neg c3] at h2
            rw [if_neg (by omega), if_neg (by omega)]
            exact cmpL_trans a b c h1 h2
theorem mt_cmpS (a b : List Int) (ha : a.length ≤ 1048576) : F_spec_l01Compare a b = some (cmpL a b) := by
  unfold F_spec_l01Compare
  have key : ∀ (n i : Nat), i + n = a.length → i ≤ b.length → bnd (run (F_spec_l01Compare_L1 a b) (i : Int)) (Out.elim (fun (s1 : Int) => (cond (decide ((a.length : Int) < (b.length : Int))) (some (-1)) (cond (decide ((b.length : Int) < (a.length : Int))) (some 1) (some 0)))) (fun (r : Int) => some r)) = some (cmpL (a.drop i) (b.drop i)) := by
    intro n
    induction n with
    | zero =>
      intro i hi hb
      obtain rfl : i = a.length := by omega
      rw [run_done (x := .brk (a.length : Int)) (by simp [F_spec_l01Compare_L1]), bnd_some_eq, List.drop_length]
      simp only [Out.elim]
      by_cases h : a.length < b.length
      · rw [decide_eq_true (by omega), cond_true, List.drop_eq_getElem_cons h]; rfl
      · rw [decide_eq_false (by omega), cond_false, decide_eq_false (by omega), cond_false, List.drop_eq_nil_of_le (by omega)]; rfl
    | succ n ih =>
      intro i hi hb
      have hlt : i < a.length := by omega
      rw [List.drop_eq_getElem_cons hlt]
      by_cases h : i < b.length
      · rw [List.drop_eq_getElem_cons h]
        have hbody : F_spec_l01Compare_L1 a b (i : Int) = (cond (decide (a[i] < b[i])) (some (.inr (.ret (-1)))) (cond (decide (b[i] < a[i])) (some (.inr (.ret 1))) (some (.inl ((i + 1 : Nat) : Int))))) := by
          simp only [F_spec_l01Compare_L1]
          rw [decide_eq_true (by omega), cond_true, decide_eq_true (by omega), cond_true, idx_nat hlt, bnd_some_eq, idx_nat h, bnd_some_eq, bnd_some_eq, bnd_some_eq, w64_nat1 (by omega)]
        rw [cmpL]
        by_cases c1 : a[i] < b[i]
        · rw [decide_eq_true c1, cond_true] at hbody
          rw [run_done hbody, bnd_some_eq, if_pos c1]; rfl
        · rw [decide_eq_false c1, cond_false] at hbody
          rw [if_neg c1]
          by_cases c2 : b[i] < a[i]
          · rw [decide_eq_true c2, cond_true] at hbody
            rw [run_done hbody, bnd_some_eq, if_pos c2]; rfl
          · rw [decide_eq_false c2, cond_false] at hbody
            rw [run_next hbody, if_neg c2]
            exact ih (i + 1) (by omega) (by omega)
      · have hbody : F_spec_l01Compare_L1 a b (i : Int) = some (.inr (.brk (i : Int))) := by
          simp only [F_spec_l01Compare_L1]
          rw [decide_eq_true (by omega), cond_true, decide_eq_false (by omega), cond_false]
        rw [run_done hbody, bnd_some_eq, List.drop_eq_nil_of_le (by omega : b.length ≤ i)]
        simp only [Out.elim]
        rw [decide_eq_false (by omega), cond_false, decide_eq_true (by omega), cond_true]
        rfl
  exact key a.length 0 (by omega) (Nat.zero_le _)
theorem mt_cmp (x y : Int) : F_cmp_Compare_int64 x y = some (if x < y then -1 else if y < x then 1 else 0) := by
  unfold F_cmp_Compare_int64 F_cmp_isNaN_int64
  simp only [bnd_some_eq]
  rw [decide_eq_false (by simp : ¬ x ≠ x), decide_eq_false (by simp : ¬ y ≠ y), cond_false, cond_false]
  by_cases h1 : x < y
  · rw [decide_eq_true h1, if_pos h1, cond_true]
  · rw [decide_eq_false h1, if_neg h1, cond_false]
    by_cases h2 : y < x
    · rw [decide_eq_true h2, if_pos h2, cond_true]
    · rw [decide_eq_false h2, if_neg h2, cond_false]
theorem mt_cmpI (a b : List Int) (ha : a.length ≤ 1048576) : F_slices_Compare_Sint64_int64 a b = some (cmpL a b) := by
  unfold F_slices_Compare_Sint64_int64
  have key : ∀ (n i : Nat), i + n = a.length → i ≤ b.length → bnd (run (F_slices_Compare_Sint64_int64_L1 a b) (i : Int)) (Out.elim (fun (s1 : Int) => (cond (decide ((a.length : Int) < (b.length : Int))) (some (-1)) (some 0))) (fun (r : Int) => some r)) = some (cmpL (a.drop i) (b.drop i)) := by
    intro n
    induction n with
    | zero =>
      intro i hi hb
      obtain rfl : i = a.length := by omega
      rw [run_done (x := .brk (a.length : Int)) (by simp [F_slices_Compare_Sint64_int64_L1]), bnd_some_eq, List.drop_length]
      simp only [Out.elim]
      by_cases h : a.length < b.length
      · rw [decide_eq_true (by omega), cond_true, List.drop_eq_getElem_cons h]; rfl
      · rw [decide_eq_false (by omega), cond_false, List.drop_eq_nil_of_le (by omega)]; rfl
    | succ n ih =>
      intro i hi hb
      have hlt : i < a.length := by omega
      rw [List.drop_eq_getElem_cons hlt]
      by_cases h : i < b.length
      · rw [List.drop_eq_getElem_cons h]
        have hbody : F_slices_Compare_Sint64_int64_L1 a b (i : Int) = (cond (decide ((if a[i] < b[i] then -1 else if b[i] < a[i] then 1 else 0 : Int) ≠ 0)) (some (.inr (.ret (if a[i] < b[i] then -1 else if b[i] < a[i] then 1 else 0)))) (some (.inl ((i + 1 : Nat) : Int)))) := by
          simp only [F_slices_Compare_Sint64_int64_L1]
          rw [decide_eq_true (by omega), cond_true, idx_nat hlt, bnd_some_eq, decide_eq_false (by omega), cond_false, idx_nat h, bnd_some_eq, mt_cmp, bnd_some_eq, w64_nat1 (by omega)]
        rw [cmpL]
        by_cases c1 : a[i] < b[i]
        · rw [if_pos c1, decide_eq_true (by omega), cond_true] at hbody
          rw [run_done hbody, bnd_some_eq, if_pos c1]; rfl
        · rw [if_neg c1] at hbody ⊢
          by_cases c2 : b[i] < a[i]
          · rw [if_pos c2, decide_eq_true (by omega), cond_true] at hbody
            rw [run_done hbody, bnd_some_eq, if_pos c2]; rfl
          · rw [if_neg c2, decide_eq_false (by omega), cond_false] at hbody
            rw [run_next hbody, if_neg c2]
            exact ih (i + 1) (by omega) (by omega)
      · have hbody : F_slices_Compare_Sint64_int64_L1 a b (i : Int) = some (.inr (.ret 1)) := by
          simp only [F_slices_Compare_Sint64_int64_L1]
          rw [decide_eq_true (by omega), cond_true, idx_nat hlt, bnd_some_eq, decide_eq_true (by omega), cond_true]
        rw [run_done hbody, bnd_some_eq, List.drop_eq_nil_of_le (by omega : b.length ≤ i)]
        rfl
  exact key a.length 0 (by omega) (Nat.zero_le _)

/-! ### Valid machines -/
def rowMN (xs : List Int) (n lo hi : Int) : Bool := decide ((xs.length : Int) = n) && xs.all fun x => inB x lo hi
theorem spec_mrow (xs : List Int) (n lo hi : Int) (h : xs.length ≤ 1048576) : F_spec_l06Row xs n lo hi = some (rowMN xs n lo hi) := by
  unfold F_spec_l06Row rowMN
  by_cases hn : (xs.length : Int) = n
  · rw [decide_eq_false (by simpa using hn), cond_false, decide_eq_true hn, Bool.true_and, run_allp xs (by omega) (fun x => inB x lo hi) (.ret false) (.brk (xs.length : Int)) (fun i hi' => by
      simp only [F_spec_l06Row_L1, Int.ofNat_lt, hi', decide_true, cond_true, idx_nat hi', bnd_some_eq, spec_in]
      cases inB xs[i] lo hi <;> rfl) (by simp [F_spec_l06Row_L1])]
    cases xs.all fun x => inB x lo hi <;> rfl
  · rw [decide_eq_true (show (xs.length : Int) ≠ n from hn), cond_true, decide_eq_false hn, Bool.false_and]
def befB (a b : GMultiRule) : Bool := decide (a.State < b.State) || (decide (a.State = b.State) && decide (cmpL a.Read b.Read < 0))
theorem mt_befS (a b : GMultiRule) (h : a.Read.length ≤ 1048576) : F_spec_l06Before a b = some (befB a b) := by
  unfold F_spec_l06Before befB
  rw [mt_cmpS _ _ h]
  cases decide (a.State < b.State)
  · cases decide (a.State = b.State) <;> rfl
  · rfl
theorem mt_befI (a b : GMultiRule) (h : a.Read.length ≤ 1048576) : ∃ c, F_impl_compareMultiRules a b = some c ∧ decide (0 ≤ c) = !befB a b := by
  unfold F_impl_compareMultiRules befB
  rw [mt_cmpI _ _ h]
  by_cases h1 : a.State = b.State
  · rw [decide_eq_false (by simpa using h1), cond_false, decide_eq_true h1, decide_eq_false (by omega : ¬ a.State < b.State)]
    refine ⟨_, rfl, ?_⟩
    by_cases h2 : cmpL a.Read b.Read < 0
    · rw [decide_eq_true h2, decide_eq_false (by omega)]; rfl
    · rw [decide_eq_false h2, decide_eq_true (by omega)]; rfl
  · rw [decide_eq_true (show a.State ≠ b.State from h1), cond_true, decide_eq_false h1]
    by_cases h2 : a.State < b.State
    · rw [decide_eq_true h2, cond_true]; exact ⟨_, rfl, rfl⟩
    · rw [decide_eq_false h2, cond_false]; exact ⟨_, rfl, rfl⟩
theorem befB_trans {a b c : GMultiRule} (h1 : befB a b = true) (h2 : befB b c = true) : befB a c = true := by
  unfold befB at *
  simp only [Bool.or_eq_true, Bool.and_eq_true, decide_eq_true_eq] at *
  rcases h1 with h1 | ⟨h1, h1'⟩ <;> rcases h2 with h2 | ⟨h2, h2'⟩
  · left; omega
  · left; omega
  · left; omega
  · right; exact ⟨by omega, cmpL_trans _ _ _ h1' h2'⟩
def mruleB (m : GMulti) (r : GMultiRule) : Bool := inB r.State 0 (w64 (m.States - 1)) && inB r.Next 0 (w64 (m.States - 1)) && (rowMN r.Read m.Tapes 0 (w64 (m.Symbols - 1)) && rowMN r.Write m.Tapes 0 (w64 (m.Symbols - 1)) && rowMN r.Move m.Tapes (-1) 1)
def zM : GMultiRule := ⟨0, [], [], [], 0⟩
def okMR (m : GMulti) (i : Nat) : Bool := mruleB m (m.Rules.getD i zM) && (decide (i = 0) || befB (m.Rules.getD (i - 1) zM) (m.Rules.getD i zM))
def headMM (m : GMulti) : Bool := inB m.Tapes 2 3 && inB m.Symbols 2 3 && inB m.States 1 16 && decide (m.Rules.length ≤ 60)
theorem mget_rule {m : GMulti} {i : Nat} (h : i < m.Rules.length) : m.Rules.getD i zM = m.Rules[i] := by rw [List.getD_eq_getElem?_getD, List.getElem?_eq_getElem h]; rfl
open Classical in
noncomputable def multiB (m : GMulti) : Bool := headMM m && decide (∀ i, i < m.Rules.length → okMR m i = true)
theorem mt_spec (m : GMulti) (s0 : Sml m) : F_spec_l06Is m = some (multiB m) := by
  have s0 : Sml m.Rules := s0
  unfold F_spec_l06Is multiB headMM
  simp only [spec_in, bnd_some_eq]
  cases inB m.Tapes 2 3
  · rfl
  cases inB m.Symbols 2 3
  · rfl
  cases inB m.States 1 16
  · rfl
  simp only [Bool.not_true, cond_false, Bool.true_and]
  by_cases hl : m.Rules.length ≤ 60
  · rw [decide_eq_false (by omega), decide_eq_true hl]
    simp only [cond_false, bnd_some_eq, Out.elim, Bool.true_and]
    have hround : ∀ i (hi : i < m.Rules.length), F_spec_l06Is_L1 m (i : Int) = some (cond (okMR m i) (.inl (w64 ((i : Int) + 1))) (.inr (.ret false))) := fun i hi => by
      have hs := s0.mem hi
      have e1 := hs.1.1
      have e2 := hs.2.1.1
      have e3 := hs.2.2.1
      unfold okMR mruleB
      rw [mget_rule hi]
      simp only [F_spec_l06Is_L1, Int.ofNat_lt, hi, decide_true, cond_true, idx_nat hi, bnd_some_eq, spec_in, spec_mrow _ _ _ _ e1, spec_mrow _ _ _ _ e2, spec_mrow _ _ _ _ e3]
      cases inB m.Rules[i].State 0 (w64 (m.States - 1))
      · rfl
      cases inB m.Rules[i].Next 0 (w64 (m.States - 1))
      · rfl
      cases rowMN m.Rules[i].Read m.Tapes 0 (w64 (m.Symbols - 1))
      · rfl
      cases rowMN m.Rules[i].Write m.Tapes 0 (w64 (m.Symbols - 1))
      · rfl
      cases rowMN m.Rules[i].Move m.Tapes (-1) 1
      · rfl
      simp only [Bool.not_true, cond_false, bnd_some_eq, Out.elim, Bool.true_and]
      by_cases h0 : i = 0
      · subst h0
        rfl
      · have hi1 : i - 1 < m.Rules.length := by omega
        rw [decide_eq_true (by omega : (0 : Int) < (i : Int)), cond_true, decide_eq_false h0, Bool.false_or, mget_rule hi1, w64_in (by omega) (by omega), show ((i : Int) - 1) = ((i - 1 : Nat) : Int) by omega, idx_nat hi1, bnd_some_eq, mt_befS _ _ (s0.mem hi1).1.1, bnd_some_eq]
        cases befB m.Rules[i - 1] m.Rules[i] <;> rfl
    rw [run_all m.Rules.length (by omega) (okMR m) (.ret false) (.brk (m.Rules.length : Int)) (fun i hi hp => by rw [hround i hi, hp]; rfl) (fun i hi hp => by rw [hround i hi, hp]; rfl) (by simp [F_spec_l06Is_L1])]
    by_cases k : ∀ i, i < m.Rules.length → okMR m i = true
    · rw [if_pos k, decide_eq_true k]; rfl
    · rw [if_neg k, decide_eq_false k]; rfl
  · rw [decide_eq_true (by omega), decide_eq_false hl]
    rfl
theorem mt_rule (m : GMulti) (r : GMultiRule) (e1 : r.Read.length ≤ 1048576) (e2 : r.Write.length ≤ 1048576) (e3 : r.Move.length ≤ 1048576) : F_impl_validMultiRule m r = some (mruleB m r) := by
  unfold F_impl_validMultiRule mruleB rowMN F_impl_size_int64
  simp only [impl_in, impl_allWithin _ _ _ e1, impl_allWithin _ _ _ e2, impl_allWithin _ _ _ e3, bnd_some_eq]
  cases inB r.State 0 (w64 (m.States - 1))
  · rfl
  cases inB r.Next 0 (w64 (m.States - 1))
  · rfl
  simp only [Bool.not_true, cond_false, bnd_some_eq, Out.elim, Bool.true_and]
  by_cases h1 : (r.Read.length : Int) = m.Tapes
  · by_cases h2 : (r.Write.length : Int) = m.Tapes
    · by_cases h3 : (r.Move.length : Int) = m.Tapes
      · simp only [h1, h2, h3, ne_eq, not_true_eq_false, decide_false, decide_true, cond_false, bnd_some_eq, Out.elim, Bool.true_and]
        cases r.Read.all fun x => inB x 0 (w64 (m.Symbols - 1))
        · rfl
        cases r.Write.all fun x => inB x 0 (w64 (m.Symbols - 1))
        · rfl
        rfl
      · rw [decide_eq_false (by simpa using h1), decide_eq_false (by simpa using h2), decide_eq_true (show (r.Move.length : Int) ≠ m.Tapes from h3), decide_eq_false h3]
        simp [Out.elim]
    · rw [decide_eq_false (by simpa using h1), decide_eq_true (show (r.Write.length : Int) ≠ m.Tapes from h2), decide_eq_false h2]
      simp [Out.elim]
  · rw [decide_eq_true (show (r.Read.length : Int) ≠ m.Tapes from h1), decide_eq_false h1]
    simp [Out.elim]
theorem mt_impl (m : GMulti) (s0 : Sml m) : F_impl_ValidMulti m = some (multiB m) := by
  have s0 : Sml m.Rules := s0
  unfold F_impl_ValidMulti multiB headMM
  simp only [impl_in, bnd_some_eq]
  cases inB m.Tapes 2 3
  · rfl
  cases inB m.Symbols 2 3
  · rfl
  cases inB m.States 1 16
  · rfl
  simp only [Bool.not_true, cond_false, Bool.true_and]
  by_cases hl : m.Rules.length ≤ 60
  · rw [decide_eq_false (by omega), decide_eq_true hl]
    simp only [cond_false, bnd_some_eq, Out.elim, Bool.true_and]
    have hround : ∀ i (hi : i < m.Rules.length), F_impl_ValidMulti_L1 m (i : Int) = some (cond (okMR m i) (.inl (w64 ((i : Int) + 1))) (.inr (.ret false))) := fun i hi => by
      have hs := s0.mem hi
      unfold okMR
      rw [mget_rule hi]
      simp only [F_impl_ValidMulti_L1, Int.ofNat_lt, hi, decide_true, cond_true, idx_nat hi, bnd_some_eq, mt_rule m _ hs.1.1 hs.2.1.1 hs.2.2.1]
      cases mruleB m m.Rules[i]
      · rfl
      simp only [Bool.not_true, cond_false, Bool.true_and]
      by_cases h0 : i = 0
      · subst h0
        rfl
      · have hi1 : i - 1 < m.Rules.length := by omega
        obtain ⟨c, hc, hd⟩ := mt_befI m.Rules[i - 1] m.Rules[i] (s0.mem hi1).1.1
        rw [decide_eq_true (by omega : (0 : Int) < (i : Int)), cond_true, decide_eq_false h0, Bool.false_or, mget_rule hi1, w64_in (by omega) (by omega), show ((i : Int) - 1) = ((i - 1 : Nat) : Int) by omega, idx_nat hi1, bnd_some_eq, hc, bnd_some_eq, hd]
        cases befB m.Rules[i - 1] m.Rules[i] <;> rfl
    rw [run_all m.Rules.length (by omega) (okMR m) (.ret false) (.brk (m.Rules.length : Int)) (fun i hi hp => by rw [hround i hi, hp]; rfl) (fun i hi hp => by rw [hround i hi, hp]; rfl) (by simp [F_impl_ValidMulti_L1])]
    by_cases k : ∀ i, i < m.Rules.length → okMR m i = true
    · rw [if_pos k, decide_eq_true k]; rfl
    · rw [if_neg k, decide_eq_false k]; rfl
  · rw [decide_eq_true (by omega), decide_eq_false hl]
    rfl
/-! ### Valid configurations -/
def keyM (s : Int) (r : List Int) : Greading := ⟨s, r.getD 0 0, r.getD 1 0, r.getD 2 0⟩
theorem keyM_inj {s s' : Int} {r r' : List Int} (hl : r.length = r'.length) (h3 : r.length ≤ 3) (h : keyM s r = keyM s' r') : s = s' ∧ r = r' := by
  unfold keyM at h
  simp only [Greading.mk.injEq] at h
  obtain ⟨h0, h1, h2, h4⟩ := h
  refine ⟨h0, List.ext_getElem hl fun i hi hi' => ?_⟩
  have : i < 3 := by omega
  have g : ∀ k, k < r.length → k < r'.length → r.getD k 0 = r'.getD k 0 → r[k]? = r'[k]? := fun k hk hk' e => by
    rw [List.getD_eq_getElem?_getD, List.getD_eq_getElem?_getD, List.getElem?_eq_getElem hk, List.getElem?_eq_getElem hk'] at e
    rw [List.getElem?_eq_getElem hk, List.getElem?_eq_getElem hk']
    simpa using e
  have key : r[i]? = r'[i]? := by
    match i, this with
    | 0, _ => exact g 0 hi hi' h1
    | 1, _ => exact g 1 hi hi' h2
    | 2, _ => exact g 2 hi hi' h4
  rw [List.getElem?_eq_getElem hi, List.getElem?_eq_getElem hi'] at key
  simpa using key
end Go.Fn
