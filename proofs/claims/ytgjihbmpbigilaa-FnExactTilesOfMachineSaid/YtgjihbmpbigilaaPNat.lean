/-
  Naturals: what the plain functions on single naturals say. No condition.
-/
import Derived.Test.YtgjihbmpbigilaaPValidTiles
namespace Go.Fn
open Go Go.Tc

def natB (xs : List Int) : Bool := decide (xs.length ≤ 40) && (xs.all fun x => inB x 0 999999) && (decide (xs.length = 0) || decide (xs.getLastD 0 ≠ 0))
theorem idx_last {xs : List Int} (h0 : xs.length ≠ 0) (h : xs.length ≤ 1048576) : idx xs (w64 ((xs.length : Int) - 1)) = some (xs.getLastD 0) := by
  rw [w64_in (by omega) (by omega), show (xs.length : Int) - 1 = ((xs.length - 1 : Nat) : Int) by omega, idx_nat (by omega)]
  congr 1
  rw [List.getLastD_eq_getLast?, List.getLast?_eq_getElem?, List.getElem?_eq_getElem (by omega)]
  rfl
theorem spec_isNat (xs : List Int) (h : xs.length ≤ 1048576) : F_spec_l02Is xs = some (natB xs) := by
  unfold F_spec_l02Is natB
  by_cases hl : xs.length ≤ 40
  · rw [decide_eq_false (by omega), decide_eq_true hl, cond_false, run_allp xs (by omega) (fun x => inB x 0 999999) (.ret false) (.brk (xs.length : Int)) (fun i hi => by
      simp only [F_spec_l02Is_L1, Int.ofNat_lt, hi, decide_true, cond_true, idx_nat hi, bnd_some_eq, spec_in]
      cases inB xs[i] 0 999999 <;> rfl) (by simp [F_spec_l02Is_L1])]
    cases xs.all fun x => inB x 0 999999
    · rfl
    · simp only [cond_true, bnd_some_eq, Out.elim, Bool.true_and]
      by_cases h0 : xs.length = 0
      · rw [decide_eq_true (by omega : (xs.length : Int) = 0), decide_eq_true h0]; rfl
      · rw [decide_eq_false (by omega : ¬ (xs.length : Int) = 0), decide_eq_false h0, idx_last h0 h]; rfl
  · rw [decide_eq_true (by omega), decide_eq_false hl]; rfl
theorem impl_isNat (xs : List Int) (h : xs.length ≤ 1048576) : F_impl_IsNatural xs = some (natB xs) := by
  unfold F_impl_IsNatural natB
  rw [impl_allWithin xs 0 999999 h]
  by_cases hl : xs.length ≤ 40
  · rw [decide_eq_true (by omega), decide_eq_true hl]
    cases xs.all fun x => inB x 0 999999
    · rfl
    · simp only [cond_true, bnd_some_eq, Bool.true_and]
      by_cases h0 : xs.length = 0
      · rw [decide_eq_true (by omega : (xs.length : Int) = 0), decide_eq_true h0]; rfl
      · rw [decide_eq_false (by omega : ¬ (xs.length : Int) = 0), decide_eq_false h0, idx_last h0 h]; rfl
  · rw [decide_eq_false (by omega), decide_eq_false hl]; rfl
theorem spec_matrix (xs : List (List Int)) (h : Sml xs) : F_spec_l33Matrix xs = some (decide (xs.length = 9) && xs.all natB) := by
  unfold F_spec_l33Matrix
  have h1 := h.1
  rw [run_allp xs (by omega) natB (.ret false) (.brk (xs.length : Int)) (fun i hi => by
    simp only [F_spec_l33Matrix_L1, Int.ofNat_lt, hi, decide_true, cond_true, idx_nat hi, bnd_some_eq, spec_isNat _ (h.mem hi).1]
    cases natB xs[i] <;> rfl) (by simp [F_spec_l33Matrix_L1])]
  have : decide ((xs.length : Int) = 9) = decide (xs.length = 9) := by rw [decide_eq_decide]; omega
  cases xs.all natB
  · simp [Out.elim]
  · simp [Out.elim, this]
theorem any_not {α : Type} (xs : List α) (p : α → Bool) : (!(xs.any fun x => !p x)) = xs.all p := by
  rw [List.not_any_eq_all_not]
  simp
theorem impl_naturals (xs : List (List Int)) (h : Sml xs) : F_impl_naturals xs = some (xs.all natB) := by
  unfold F_impl_naturals F_slices_ContainsFunc_SSint64_Sint64 F_slices_IndexFunc_SSint64_Sint64
  have h1 := h.1
  rw [run_find xs (by omega) (fun x => !natB x) (fun i hi => by
    simp only [F_slices_IndexFunc_SSint64_Sint64_L1, F_impl_naturals_1, Int.ofNat_lt, hi, decide_true, cond_true, idx_nat hi, bnd_some_eq, impl_isNat _ (h.mem hi).1]
    cases natB xs[i] <;> rfl) (by simp [F_slices_IndexFunc_SSint64_Sint64_L1])]
  simp only [bnd_some_eq]
  rw [find_any, any_not]
theorem impl_square (xs : List (List Int)) (h : Sml xs) : F_impl_isSquare xs = some (decide (xs.length = 9) && xs.all natB) := by
  unfold F_impl_isSquare
  rw [impl_naturals xs h]
  have : decide ((xs.length : Int) = 9) = decide (xs.length = 9) := by rw [decide_eq_decide]; omega
  rw [this]
  cases decide (xs.length = 9) <;> rfl
theorem impl_equal (a b : List Int) (h : a.length ≤ 1048576) : F_slices_Equal_Sint64_int64 a b = some (decide (a = b)) := by
  unfold F_slices_Equal_Sint64_int64
  by_cases hl : a.length = b.length
  · rw [decide_eq_false (by omega), cond_false, run_all a.length (by omega) (fun i => decide (a[i]? = b[i]?)) (.ret false) (.brk (a.length : Int)) ?_ ?_ ?_]
    · by_cases e : a = b
      · subst e
        simp [Out.elim]
      · rw [if_neg, decide_eq_false e]
        · rfl
        · intro k
          refine e (List.ext_getElem? fun i => ?_)
          by_cases hi : i < a.length
          · simpa using k i hi
          · rw [List.getElem?_eq_none (by omega), List.getElem?_eq_none (by omega)]
    · intro i hi hp
      have hb : i < b.length := by omega
      simp [List.getElem?_eq_getElem hi, List.getElem?_eq_getElem hb] at hp
      simp [F_slices_Equal_Sint64_int64_L1, hi, idx_nat hi, idx_nat hb, hp]
    · intro i hi hp
      have hb : i < b.length := by omega
      simp [List.getElem?_eq_getElem hi, List.getElem?_eq_getElem hb] at hp
      simp [F_slices_Equal_Sint64_int64_L1, hi, idx_nat hi, idx_nat hb, hp]
    · simp [F_slices_Equal_Sint64_int64_L1]
  · rw [decide_eq_true (by omega), decide_eq_false (fun e => hl (by rw [e]))]; rfl
theorem spec_compare (a b : List Int) (h : a.length ≤ 1048576) : ∃ c, F_spec_l02Compare a b = some c ∧ (c = 0 ↔ a = b) := by
  unfold F_spec_l02Compare
  by_cases hl : a.length = b.length
  · rw [decide_eq_false (by omega), cond_false]
    obtain ⟨o, ho, hq⟩ := run_inv (body := F_spec_l02Compare_L1 a b) (fun s => -1 ≤ s ∧ s < a.length ∧ ∀ i : Nat, s < i → a[i]? = b[i]?)
      (fun o => (∃ s, o = .brk s ∧ a = b) ∨ (∃ c, o = .ret c ∧ c ≠ 0 ∧ a ≠ b)) (fun s => (s + 1).toNat) (by
        rintro s ⟨h0, h1, h2⟩
        by_cases hs : 0 ≤ s
        · have hb : s < b.length := by omega
          have ha' : a[s.toNat]? = some (a[s.toNat]'(by omega)) := List.getElem?_eq_getElem (by omega)
          have hb' : b[s.toNat]? = some (b[s.toNat]'(by omega)) := List.getElem?_eq_getElem (by omega)
          simp only [F_spec_l02Compare_L1, decide_eq_true hs, cond_true, idx_int hs h1, idx_int hs hb, bnd_some_eq]
          by_cases c1 : a[s.toNat]'(by omega) < b[s.toNat]'(by omega)
          · rw [decide_eq_true c1]
            refine .inr ⟨_, rfl, .inr ⟨_, rfl, by decide, fun e => ?_⟩⟩
            subst e
            omega
          · rw [decide_eq_false c1, cond_false]
            by_cases c2 : b[s.toNat]'(by omega) < a[s.toNat]'(by omega)
            · rw [decide_eq_true c2]
              refine .inr ⟨_, rfl, .inr ⟨_, rfl, by decide, fun e => ?_⟩⟩
              subst e
              omega
            · rw [decide_eq_false c2, cond_false]
              refine .inl ⟨_, rfl, ?_, ?_⟩
              · rw [w64_in (by omega) (by omega)]
                refine ⟨by omega, by omega, fun i hi => ?_⟩
                by_cases e : s < i
                · exact h2 i e
                · obtain rfl : i = s.toNat := by omega
                  rw [ha', hb']
                  congr 1
                  omega
              · rw [w64_in (by omega) (by omega)]
                omega
        · refine .inr ⟨.brk s, ?_, .inl ⟨s, rfl, List.ext_getElem? fun i => h2 i (by omega)⟩⟩
          simp [F_spec_l02Compare_L1, hs]) (w64 ((a.length : Int) - 1)) (by
        rw [w64_in (by omega) (by omega)]
        refine ⟨by omega, by omega, fun i hi => ?_⟩
        rw [List.getElem?_eq_none (by omega), List.getElem?_eq_none (by omega)])
    rw [ho]
    rcases hq with ⟨s, rfl, e⟩ | ⟨c, rfl, hc, e⟩
    · exact ⟨0, rfl, by simp [e]⟩
    · exact ⟨c, rfl, by simp [hc, e]⟩
  · rw [decide_eq_true (by omega)]
    have hne : a ≠ b := fun e => hl (by rw [e])
    by_cases h1 : (a.length : Int) < b.length
    · rw [decide_eq_true h1]
      exact ⟨-1, rfl, by simp [hne]⟩
    · rw [decide_eq_false h1]
      exact ⟨1, rfl, by simp [hne]⟩
theorem idx_lit {α : Type} {xs : List α} {i : Nat} (h : i < xs.length) {j : Int} (hj : j = i) : idx xs j = some xs[i] := by
  subst hj
  exact idx_nat h
theorem law_IsBalanced (xs : List (List Int)) (hw : Wf.wf xs) : F_laws_FnExactIsBalanced xs = some true := by
  unfold F_laws_FnExactIsBalanced
  obtain ⟨r, hr, k⟩ := sz_Int64SS xs hw 1048576 (by decide) (by decide)
  rw [hr, bnd_some_eq]
  rcases k with k | ⟨k0, _, hx⟩
  · simp [k]
  rw [decide_eq_false (by omega), cond_false]
  simp only [to_Int64SS xs hx, bnd_some_eq, eq_Int64SS xs hx.med]
  have : ∃ b, F_spec_IsBalanced xs = some b ∧ F_impl_IsBalanced xs = some b := by
    unfold F_spec_IsBalanced F_impl_IsBalanced
    rw [spec_matrix xs hx, impl_square xs hx, bnd_some_eq, bnd_some_eq]
    by_cases h9 : xs.length = 9
    · cases decide (xs.length = 9) && xs.all natB
      · exact ⟨false, rfl, rfl⟩
      · have h6 : 6 < xs.length := by omega
        have h7 : 7 < xs.length := by omega
        simp only [cond_true, idx_lit h6 (j := 6) rfl, idx_lit h7 (j := 7) rfl, bnd_some_eq, impl_equal _ _ (hx.mem h6).1]
        obtain ⟨c, hc, e⟩ := spec_compare xs[6] xs[7] (hx.mem h6).1
        rw [hc]
        refine ⟨_, rfl, ?_⟩
        congr 1
        rw [decide_eq_decide]
        exact e.symm
    · rw [decide_eq_false h9]
      exact ⟨false, rfl, rfl⟩
  obtain ⟨b, h1, h2⟩ := this
  rw [h1, h2]
  simp
end Go.Fn
