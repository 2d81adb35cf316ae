/-
  The plain functions of ValidTiles agree. No condition.
-/
import Derived.Test.YtnpkepfmicgelaaDoorHelp
namespace Go.Fn
open Go Go.Tc

theorem spec_in (x lo hi : Int) : F_spec_l00In x lo hi = some (inB x lo hi) := by
  unfold F_spec_l00In inB
  cases decide (lo ≤ x) <;> rfl
theorem impl_in (x lo hi : Int) : F_impl_within x lo hi = some (inB x lo hi) := by
  unfold F_impl_within inB
  cases decide (lo ≤ x) <;> rfl
theorem spec_color (x : Int) : F_spec_l33Color x = some (inB x 0 9999) := by
  simp [F_spec_l33Color, spec_in]
theorem impl_allWithin (xs : List Int) (lo hi : Int) (h : xs.length ≤ 1048576) : F_impl_allWithin xs lo hi = some (xs.all fun x => inB x lo hi) := by
  unfold F_impl_allWithin
  rw [run_all xs.length (by omega) (fun i => inB (xs.getD i 0) lo hi) (.ret false) (.brk (xs.length : Int)) ?_ ?_ ?_]
  · have : (∀ i, i < xs.length → inB (xs.getD i 0) lo hi = true) ↔ (xs.all fun x => inB x lo hi) = true := by
      rw [List.all_eq_true]
      constructor
      · intro h x hx
        obtain ⟨i, hi, rfl⟩ := List.getElem_of_mem hx
        simpa [hi] using h i hi
      · intro h i hi
        simpa [hi] using h _ (List.getElem_mem hi)
    by_cases e : (xs.all fun x => inB x lo hi) = true
    · rw [if_pos (this.2 e), e]; rfl
    · rw [if_neg (fun k => e (this.1 k))]
      simp only [Bool.not_eq_true] at e
      rw [e]; rfl
  · intro i hi hp
    simp only [List.getD_eq_getElem?_getD, List.getElem?_eq_getElem hi, Option.getD_some] at hp
    simp [F_impl_allWithin_L1, hi, idx_nat hi, impl_in, hp]
  · intro i hi hp
    simp only [List.getD_eq_getElem?_getD, List.getElem?_eq_getElem hi, Option.getD_some] at hp
    simp [F_impl_allWithin_L1, hi, idx_nat hi, impl_in, hp]
  · simp [F_impl_allWithin_L1]
def colB (t : GTile) : Bool := inB t.Left 0 9999 && inB t.Bottom 0 9999 && inB t.Right 0 9999 && inB t.Top 0 9999
theorem impl_colors (t : GTile) : F_impl_colorsOk [t.Left, t.Bottom, t.Right, t.Top] = some (colB t) := by
  unfold F_impl_colorsOk
  rw [impl_allWithin _ _ _ (by simp)]
  simp [colB, Bool.and_assoc]
/-- The set is a tiles' set. -/
def validT (xs : List GTile) : Bool := decide (0 < xs.length) && decide (xs.length ≤ 300) && xs.all colB && decide xs.Nodup

theorem nodup_iff {α : Type} {xs : List α} : xs.Nodup ↔ ∀ i (hi : i < xs.length) j (hj : j < i), xs[j] ≠ xs[i] := by
  rw [List.nodup_iff_pairwise_ne, List.pairwise_iff_getElem]
  constructor
  · intro h i hi j hj
    exact h j i (by omega) hi hj
  · intro h i j hi hj hij
    exact h j hj i hij
/-- No place ahead of i bears what i bears. -/
def newB (xs : List GTile) (i : Nat) : Bool := decide (∀ j, j < i → xs[j]? ≠ xs[i]?)
theorem spec_inner (xs : List GTile) (i : Nat) (hi : i < xs.length) :
    ∃ o : Out Int Bool, run (F_spec_l33Is_L2 xs i xs[i]) 0 = some o ∧ ((i < 300 → newB xs i = true) → ∃ k, o = .brk k) ∧ (i < 300 → newB xs i = false → o = .ret false) := by
  by_cases h300 : i < 300
  · refine ⟨_, run_all i (by omega) (fun j => decide (xs[j]? ≠ xs[i]?)) (Out.ret false) (Out.brk (i : Int)) ?_ ?_ ?_, ?_, ?_⟩
    · intro j hj hp
      have hj' : j < xs.length := by omega
      simp [List.getElem?_eq_getElem hj', List.getElem?_eq_getElem hi] at hp
      simp [F_spec_l33Is_L2, hj, idx_nat hj', hp, show (i : Int) < 300 by omega]
    · intro j hj hp
      have hj' : j < xs.length := by omega
      simp [List.getElem?_eq_getElem hj', List.getElem?_eq_getElem hi] at hp
      simp [F_spec_l33Is_L2, hj, idx_nat hj', hp, show (i : Int) < 300 by omega]
    · simp [F_spec_l33Is_L2]
    · intro h
      have := h h300
      simp only [newB, decide_eq_true_eq] at this
      rw [if_pos (by simpa using this)]
      exact ⟨_, rfl⟩
    · intro _ h
      simp only [newB, decide_eq_false_iff_not] at h
      rw [if_neg (by simpa using h)]
  · refine ⟨.brk 0, run_done ?_, fun _ => ⟨0, rfl⟩, fun h => absurd h h300⟩
    simp [F_spec_l33Is_L2, show ¬ (i : Int) < 300 by omega, show 0 < i by omega]
theorem spec_round (xs : List GTile) (i : Nat) (hi : i < xs.length) :
    F_spec_l33Is_L1 xs i = some (if colB xs[i] && (decide (300 ≤ i) || newB xs i) then .inl (w64 (i + 1)) else .inr (.ret false)) := by
  obtain ⟨o, ho, h1, h2⟩ := spec_inner xs i hi
  unfold F_spec_l33Is_L1
  simp only [Int.ofNat_lt, hi, decide_true, cond_true, idx_nat hi, bnd_some_eq, spec_color, colB]
  rw [ho]
  rcases Bool.eq_false_or_eq_true (inB xs[i].Left 0 9999) with e1 | e1 <;> simp [e1, Out.elim]
  rcases Bool.eq_false_or_eq_true (inB xs[i].Bottom 0 9999) with e2 | e2 <;> simp [e2, Out.elim]
  rcases Bool.eq_false_or_eq_true (inB xs[i].Right 0 9999) with e3 | e3 <;> simp [e3, Out.elim]
  rcases Bool.eq_false_or_eq_true (inB xs[i].Top 0 9999) with e4 | e4 <;> simp [e4, Out.elim]
  by_cases h : i < 300 → newB xs i = true
  · obtain ⟨k, rfl⟩ := h1 h
    have : 300 ≤ i ∨ newB xs i = true := by
      by_cases h3 : i < 300
      · exact .inr (h h3)
      · exact .inl (by omega)
    simp [this]
  · have h3 : i < 300 := by
      by_cases h3 : i < 300
      · exact h3
      · exact absurd (fun k => absurd k h3) h
    have hf : newB xs i = false := by
      cases e : newB xs i
      · rfl
      · exact absurd (fun _ => e) h
    rw [h2 h3 hf]
    simp [hf, h3]
theorem nodup_new {xs : List GTile} : xs.Nodup ↔ ∀ i, i < xs.length → newB xs i = true := by
  rw [nodup_iff]
  constructor
  · intro h i hi
    simp only [newB, decide_eq_true_eq]
    intro j hj
    have := h i hi j hj
    simpa [List.getElem?_eq_getElem hi, List.getElem?_eq_getElem (show j < xs.length by omega)] using this
  · intro h i hi j hj
    have := h i hi
    simp only [newB, decide_eq_true_eq] at this
    simpa [List.getElem?_eq_getElem hi, List.getElem?_eq_getElem (show j < xs.length by omega)] using this j hj
theorem spec_is (xs : List GTile) (h : xs.length ≤ 1048576) : F_spec_l33Is xs = some (validT xs) := by
  unfold F_spec_l33Is
  rw [run_all xs.length (by omega) (fun i => (xs[i]?.map colB).getD false && (decide (300 ≤ i) || newB xs i)) (.ret false) (.brk (xs.length : Int)) ?_ ?_ ?_]
  · unfold validT
    by_cases h0 : 0 < xs.length
    · by_cases h1 : xs.length ≤ 300
      · have e : (∀ i, i < xs.length → ((xs[i]?.map colB).getD false && (decide (300 ≤ i) || newB xs i)) = true) ↔ (xs.all colB && decide xs.Nodup) = true := by
          rw [Bool.and_eq_true, ← all_places, decide_eq_true_eq, nodup_new]
          constructor
          · intro k
            refine ⟨fun i hi => ?_, fun i hi => ?_⟩
            · have := k i hi
              simp [List.getElem?_eq_getElem hi] at this
              exact this.1
            · have := k i hi
              simp [List.getElem?_eq_getElem hi] at this
              rcases this.2 with h | h
              · omega
              · exact h
          · rintro ⟨k1, k2⟩ i hi
            simp [List.getElem?_eq_getElem hi, k1 i hi, k2 i hi]
        by_cases k : ∀ i, i < xs.length → ((xs[i]?.map colB).getD false && (decide (300 ≤ i) || newB xs i)) = true
        · rw [if_pos k]
          have := e.1 k
          simp only [Bool.and_eq_true] at this
          simp [Out.elim, h0, h1, this.1, this.2]
          omega
        · rw [if_neg k]
          have : (xs.all colB && decide xs.Nodup) = false := by
            cases q : xs.all colB && decide xs.Nodup
            · rfl
            · exact absurd (e.2 q) k
          simp only [Bool.and_assoc, this, Bool.and_false]
          rfl
      · have : ∀ o : Out Int Bool, (o = .brk (xs.length : Int) ∨ o = .ret false) → bnd (some o) (Out.elim (fun (s1 : Int) => (cond (decide (0 < (xs.length : Int))) (some (decide ((xs.length : Int) ≤ 300))) (some false))) (fun (r : Bool) => some r)) = some false := by
          rintro o (rfl | rfl)
          · simp only [Out.elim, bnd_some_eq]
            rw [decide_eq_true (by omega : 0 < (xs.length : Int)), decide_eq_false (by omega : ¬ (xs.length : Int) ≤ 300)]
            rfl
          · rfl
        rw [this _ (by split <;> simp)]
        simp [h1]
    · obtain rfl : xs = [] := List.eq_nil_of_length_eq_zero (by omega)
      simp [Out.elim]
  · intro i hi hp
    simp only [List.getElem?_eq_getElem hi, Option.map_some, Option.getD_some] at hp
    rw [spec_round xs i hi, if_pos hp]
  · intro i hi hp
    simp only [List.getElem?_eq_getElem hi, Option.map_some, Option.getD_some] at hp
    rw [spec_round xs i hi, if_neg (by simp [hp])]
  · simp [F_spec_l33Is_L1]
theorem index_lt (xs : List GTile) (h : xs.length ≤ 1048576) (i : Nat) (hi : i < xs.length) : ∃ k : Int, F_slices_Index_Simpl_Tile_impl_Tile xs xs[i] = some k ∧ (k = i ↔ newB xs i = true) := by
  unfold F_slices_Index_Simpl_Tile_impl_Tile
  have := run_inv (body := F_slices_Index_Simpl_Tile_impl_Tile_L1 xs xs[i]) (fun s => ∃ j : Nat, s = j ∧ j ≤ i ∧ ∀ l, l < j → xs[l]? ≠ xs[i]?)
    (fun o => ∃ j : Nat, o = .ret (j : Int) ∧ j ≤ i ∧ xs[j]? = xs[i]? ∧ ∀ l, l < j → xs[l]? ≠ xs[i]?) (fun s => xs.length - s.toNat) ?_ 0 ⟨0, rfl, by omega, fun l hl => by omega⟩
  · obtain ⟨o, ho, j, rfl, hj, he, hn⟩ := this
    rw [ho]
    refine ⟨(j : Int), rfl, ?_⟩
    simp only [newB, decide_eq_true_eq]
    constructor
    · intro e
      obtain rfl : j = i := by omega
      exact hn
    · intro k
      by_cases e : j = i
      · rw [e]
      · exact absurd he (k j (by omega))
  · rintro s ⟨j, rfl, hj, hn⟩
    have hj' : j < xs.length := by omega
    by_cases e : xs[i] = xs[j]
    · right
      refine ⟨.ret (j : Int), ?_, j, rfl, hj, ?_, hn⟩
      · simp [F_slices_Index_Simpl_Tile_impl_Tile_L1, hj', idx_nat hj', e]
      · rw [List.getElem?_eq_getElem hj', List.getElem?_eq_getElem hi, e]
    · left
      refine ⟨((j + 1 : Nat) : Int), ?_, ⟨j + 1, rfl, ?_, ?_⟩, by omega⟩
      · rw [← w64_nat1 (by omega)]
        simp [F_slices_Index_Simpl_Tile_impl_Tile_L1, hj', idx_nat hj', e]
      · by_cases q : j = i
        · subst q; exact absurd rfl e
        · omega
      · intro l hl
        by_cases q : l = j
        · subst q
          rw [List.getElem?_eq_getElem hj', List.getElem?_eq_getElem hi]
          simpa using fun k => e k.symm
        · exact hn l (by omega)
theorem impl_valid (xs : List GTile) (h : xs.length ≤ 1048576) : F_impl_ValidTiles xs = some (validT xs) := by
  unfold F_impl_ValidTiles F_impl_size_impl_Tile
  simp only [bnd_some_eq, impl_in]
  by_cases hl : 0 < xs.length ∧ xs.length ≤ 300
  · have e1 : inB (xs.length : Int) 1 300 = true := by simp [inB]; omega
    rw [e1]
    simp only [Bool.not_true, cond_false]
    rw [run_all xs.length (by omega) (fun i => (xs[i]?.map colB).getD false && newB xs i) (.ret false) (.brk (xs.length : Int)) ?_ ?_ ?_]
    · have e : (∀ i, i < xs.length → ((xs[i]?.map colB).getD false && newB xs i) = true) ↔ (xs.all colB && decide xs.Nodup) = true := by
        rw [Bool.and_eq_true, ← all_places, decide_eq_true_eq, nodup_new]
        constructor
        · intro k
          refine ⟨fun i hi => ?_, fun i hi => ?_⟩
          · have := k i hi
            simp [List.getElem?_eq_getElem hi] at this
            exact this.1
          · have := k i hi
            simp [List.getElem?_eq_getElem hi] at this
            exact this.2
        · rintro ⟨k1, k2⟩ i hi
          simp [List.getElem?_eq_getElem hi, k1 i hi, k2 i hi]
      unfold validT
      simp only [decide_eq_true hl.1, decide_eq_true hl.2, Bool.true_and]
      split
      · rename_i k
        rw [e.1 k]; rfl
      · rename_i k
        have : (xs.all colB && decide xs.Nodup) = false := by
          cases q : xs.all colB && decide xs.Nodup
          · rfl
          · exact absurd (e.2 q) k
        rw [this]; rfl
    · intro i hi hp
      simp only [List.getElem?_eq_getElem hi, Option.map_some, Option.getD_some, Bool.and_eq_true] at hp
      obtain ⟨k, hk, hkk⟩ := index_lt xs h i hi
      unfold F_impl_ValidTiles_L1
      simp only [Int.ofNat_lt, hi, decide_true, cond_true, idx_nat hi, bnd_some_eq, impl_colors, hp.1, hk, hkk.2 hp.2]
      simp
    · intro i hi hp
      simp only [List.getElem?_eq_getElem hi, Option.map_some, Option.getD_some] at hp
      obtain ⟨k, hk, hkk⟩ := index_lt xs h i hi
      unfold F_impl_ValidTiles_L1
      simp only [Int.ofNat_lt, hi, decide_true, cond_true, idx_nat hi, bnd_some_eq, impl_colors, hk]
      cases hc : colB xs[i]
      · simp
      · rw [hc] at hp
        have : k ≠ i := fun e => by
          have := hkk.1 e
          simp [this] at hp
        simp [this]
    · simp [F_impl_ValidTiles_L1]
  · have e1 : inB (xs.length : Int) 1 300 = false := by
      simp [inB]; omega
    have e2 : validT xs = false := by
      unfold validT
      by_cases h0 : 0 < xs.length
      · have : ¬ xs.length ≤ 300 := fun k => hl ⟨h0, k⟩
        simp [this]
      · simp [h0]
    rw [e1, e2]
    rfl
end Go.Fn
