/-
  All tilings, in the order of the search; what the searches answer then. No program in sight. No condition.
-/
import Derived.Test.YtgojoooilijiiaaPSol
import Derived.Test.YtgojoooilijiiaaPTRun
namespace Go.Fn
open Go Go.Tc
def solsT (ts : List GTile) (bs : List Int) : Nat → List Int → List (List Int)
  | 0, tl => [tl]
  | n + 1, tl => (List.range ts.length).flatMap fun i => if fitB ts bs tl i = true then solsT ts bs n (tl ++ [(i : Int)]) else []
def costT (ts : List GTile) (bs : List Int) : Nat → List Int → Nat
  | 0, _ => 0
  | n + 1, tl => ((List.range ts.length).map fun i => if fitB ts bs tl i = true then 1 + costT ts bs n (tl ++ [(i : Int)]) else 0).sum
theorem lp_all {fit : Nat → Bool} {B : Nat} {g : Nat → Nat × Int → Bool × Nat × Int} {K : Nat → Nat} {D : Nat → Nat}
    (hg : ∀ (i s : Nat) (c : Int), fit i = true → s + K i ≤ B → 0 ≤ c → c + D i ≤ 4611686018427387903 → g i (s, c) = (false, s + K i, c + D i)) : ∀ (n i s : Nat) (c : Int),
      s + ((List.range' i n).map fun j => if fit j = true then 1 + K j else 0).sum ≤ B → 0 ≤ c → c + ((List.range' i n).map fun j => if fit j = true then D j else 0).sum ≤ 4611686018427387903 →
      lp fit B g n i (s, c) = (false, s + ((List.range' i n).map fun j => if fit j = true then 1 + K j else 0).sum, c + (((List.range' i n).map fun j => if fit j = true then D j else 0).sum : Nat))
  | 0, i, s, c, _, _, _ => by simp [lp]
  | n + 1, i, s, c, h1, h2, h3 => by
    rw [List.range'_succ, List.map_cons, List.sum_cons] at h1 h3
    rw [List.range'_succ, List.map_cons, List.sum_cons, List.map_cons, List.sum_cons]
    unfold lp
    cases hf : fit i with
    | false =>
      simp only [hf, Bool.false_eq_true, if_false] at h1 h3 ⊢
      rw [lp_all hg n (i + 1) s c (by omega) h2 (by omega), Nat.zero_add, Nat.zero_add]
    | true =>
      simp only [hf, if_true] at h1 h3 ⊢
      rw [if_neg (by omega), hg i (s + 1) c hf (by omega) h2 (by omega)]
      simp only [Bool.false_eq_true, if_false]
      rw [lp_all hg n (i + 1) (s + 1 + K i) (c + D i) (by omega) (by omega) (by omega)]
      simp only [Prod.mk.injEq, true_and]
      constructor <;> omega
theorem len_flat {β : Type} {f : Nat → List β} : ∀ xs : List Nat, (xs.flatMap f).length = (xs.map fun i => (f i).length).sum
  | [] => rfl
  | x :: r => by rw [List.flatMap_cons, List.length_append, List.map_cons, List.sum_cons, len_flat r]
theorem srchT_all {ts : List GTile} {bs : List Int} {B : Nat} : ∀ (n : Nat) (tl : List Int) (s : Nat) (c : Int), s + costT ts bs n tl ≤ B → 0 ≤ c → c + (solsT ts bs n tl).length ≤ 4611686018427387903 →
    srchT ts bs B n tl (s, c) = (false, s + costT ts bs n tl, c + ((solsT ts bs n tl).length : Nat))
  | 0, tl, s, c, _, h2, h3 => by
    unfold srchT costT solsT
    simp only [List.length_singleton, Nat.add_zero] at h3 ⊢
    rw [show (solsT ts bs 0 tl).length = 1 from rfl] at h3
    rw [w64_in (by omega) (by omega)]
    rfl
  | n + 1, tl, s, c, h1, h2, h3 => by
    have hl : (solsT ts bs (n + 1) tl).length = ((List.range' 0 ts.length).map fun j => if fitB ts bs tl j = true then (solsT ts bs n (tl ++ [(j : Int)])).length else 0).sum := by
      show ((List.range ts.length).flatMap _).length = _
      rw [len_flat, List.range_eq_range']
      congr 1
      apply List.map_congr_left
      intro i _
      split <;> rfl
    have hc : costT ts bs (n + 1) tl = ((List.range' 0 ts.length).map fun j => if fitB ts bs tl j = true then 1 + costT ts bs n (tl ++ [(j : Int)]) else 0).sum := by
      rw [← List.range_eq_range']
      rfl
    rw [hl] at h3 ⊢
    rw [hc] at h1 ⊢
    exact lp_all (fun i s c _ k1 k2 k3 => srchT_all n _ s c k1 k2 k3) ts.length 0 s c h1 h2 h3
theorem lp2_all {fit : Nat → Bool} {B : Nat} {g : Nat → Nat → Nat × Nat × List Int} {K : Nat → Nat} {L : Nat → List (List Int)}
    (hg : ∀ i s, fit i = true → s + K i ≤ B → match L i with | [] => g i s = (0, s + K i, []) | x :: _ => ∃ s', g i s = (2, s', x) ∧ s' ≤ s + K i) : ∀ (n i s : Nat),
      s + ((List.range' i n).map fun j => if fit j = true then 1 + K j else 0).sum ≤ B →
      match (List.range' i n).flatMap fun j => if fit j = true then L j else [] with
      | [] => lp2 fit B g n i s = (0, s + ((List.range' i n).map fun j => if fit j = true then 1 + K j else 0).sum, [])
      | x :: _ => ∃ s', lp2 fit B g n i s = (2, s', x) ∧ s' ≤ s + ((List.range' i n).map fun j => if fit j = true then 1 + K j else 0).sum
  | 0, i, s, _ => rfl
  | n + 1, i, s, h1 => by
    rw [List.range'_succ, List.map_cons, List.sum_cons] at h1
    rw [List.range'_succ, List.map_cons, List.sum_cons, List.flatMap_cons]
    unfold lp2
    cases hf : fit i with
    | false =>
      simp only [hf, Bool.false_eq_true, if_false] at h1 ⊢
      rw [List.nil_append, Nat.zero_add]
      exact lp2_all hg n (i + 1) s (by omega)
    | true =>
      simp only [hf, if_true] at h1 ⊢
      rw [if_neg (by omega)]
      have hgi := hg i (s + 1) hf (by omega)
      cases hL : L i with
      | nil =>
        rw [hL] at hgi
        simp only at hgi
        rw [hgi, List.nil_append]
        simp only [if_true]
        have := lp2_all hg n (i + 1) (s + 1 + K i) (by omega)
        rw [show s + (1 + K i + ((List.range' (i + 1) n).map fun j => if fit j = true then 1 + K j else 0).sum) = s + 1 + K i + ((List.range' (i + 1) n).map fun j => if fit j = true then 1 + K j else 0).sum by omega]
        exact this
      | cons x r =>
        rw [hL] at hgi
        obtain ⟨s', e, hs⟩ := hgi
        rw [e, List.cons_append]
        exact ⟨s', by rw [if_neg (by simp)], by omega⟩
theorem srch2_all {ts : List GTile} {bs : List Int} {B : Nat} : ∀ (n : Nat) (tl : List Int) (s : Nat), s + costT ts bs n tl ≤ B →
    match solsT ts bs n tl with
    | [] => srch2 ts bs B n tl s = (0, s + costT ts bs n tl, [])
    | x :: _ => ∃ s', srch2 ts bs B n tl s = (2, s', x) ∧ s' ≤ s + costT ts bs n tl
  | 0, tl, s, _ => ⟨s, rfl, Nat.le_add_right _ _⟩
  | n + 1, tl, s, h1 => by
    have hc : costT ts bs (n + 1) tl = ((List.range' 0 ts.length).map fun j => if fitB ts bs tl j = true then 1 + costT ts bs n (tl ++ [(j : Int)]) else 0).sum := by
      rw [← List.range_eq_range']
      rfl
    have hs : solsT ts bs (n + 1) tl = (List.range' 0 ts.length).flatMap fun j => if fitB ts bs tl j = true then solsT ts bs n (tl ++ [(j : Int)]) else [] := by
      rw [← List.range_eq_range']
      rfl
    rw [hc] at h1 ⊢
    rw [hs]
    exact lp2_all (g := fun i s => srch2 ts bs B n (tl ++ [(i : Int)]) s) (L := fun j => solsT ts bs n (tl ++ [(j : Int)])) (fun i s _ k => srch2_all n _ s k) ts.length 0 s h1

/-! ### Where one tile alone leads on -/
def deadT (ts : List GTile) (bs tl : List Int) : Prop := ∀ i, i < ts.length → fitB ts bs tl i = false
theorem dead_sols {ts : List GTile} {bs tl : List Int} (h : deadT ts bs tl) (n : Nat) : solsT ts bs (n + 1) tl = [] ∧ costT ts bs (n + 1) tl = 0 := by
  constructor
  · show (List.range ts.length).flatMap _ = []
    rw [List.flatMap_eq_nil_iff]
    intro i hi
    rw [h i (List.mem_range.1 hi)]
    rfl
  · show ((List.range ts.length).map _).sum = 0
    have : ∀ xs : List Nat, (∀ i ∈ xs, i < ts.length) → (xs.map fun i => if fitB ts bs tl i = true then 1 + costT ts bs n (tl ++ [(i : Int)]) else 0).sum = 0 := by
      intro xs hx
      induction xs with
      | nil => rfl
      | cons x r ih =>
        rw [List.map_cons, List.sum_cons, ih (fun i hi => hx i (List.mem_cons_of_mem _ hi)), h x (hx x (List.mem_cons_self ..))]
        rfl
    exact this _ (fun i hi => List.mem_range.1 hi)
theorem flat_one {β : Type} {f : Nat → List β} {i0 : Nat} : ∀ xs : List Nat, xs.Nodup → (∀ i ∈ xs, i ≠ i0 → f i = []) → xs.flatMap f = if i0 ∈ xs then f i0 else []
  | [], _, _ => by simp
  | x :: r, hn, h => by
    have hn' := List.nodup_cons.1 hn
    rw [List.flatMap_cons, flat_one r hn'.2 (fun i hi => h i (List.mem_cons_of_mem _ hi))]
    by_cases hx : x = i0
    · subst hx
      rw [if_neg hn'.1, List.append_nil, if_pos (List.mem_cons_self ..)]
    · rw [h x (List.mem_cons_self ..) hx, List.nil_append]
      by_cases hr : i0 ∈ r
      · rw [if_pos hr, if_pos (List.mem_cons_of_mem _ hr)]
      · rw [if_neg hr, if_neg (fun e => (List.mem_cons.1 e).elim (fun e => hx e.symm) hr)]
theorem sum_le1 {f : Nat → Nat} : ∀ ys : List Nat, (∀ i ∈ ys, f i ≤ 1) → (ys.map f).sum ≤ ys.length
  | [], _ => by simp
  | y :: t, hy => by
    rw [List.map_cons, List.sum_cons, List.length_cons]
    have h1 := hy y (List.mem_cons_self ..)
    have h2 := sum_le1 t (fun i hi => hy i (List.mem_cons_of_mem _ hi))
    omega
theorem sum_one {f : Nat → Nat} {i0 k : Nat} : ∀ xs : List Nat, xs.Nodup → (∀ i ∈ xs, i ≠ i0 → f i ≤ 1) → (f i0 ≤ 1 + k) → (xs.map f).sum ≤ xs.length + k
  | [], _, _, _ => by simp
  | x :: r, hn, h, h0 => by
    have hn' := List.nodup_cons.1 hn
    rw [List.map_cons, List.sum_cons, List.length_cons]
    by_cases hx : x = i0
    · subst hx
      have := sum_le1 r (fun i hi => h i (List.mem_cons_of_mem _ hi) (fun e => hn'.1 (e ▸ hi)))
      omega
    · have h1 := h x (List.mem_cons_self ..) hx
      have h2 := sum_one r hn'.2 (fun i hi => h i (List.mem_cons_of_mem _ hi)) h0
      omega
theorem one_sols {ts : List GTile} {bs tl : List Int} {i0 : Nat} (h0 : i0 < ts.length) (hf : fitB ts bs tl i0 = true) {n : Nat} (hd : ∀ i, i < ts.length → i ≠ i0 → fitB ts bs tl i = true → solsT ts bs n (tl ++ [(i : Int)]) = [] ∧ costT ts bs n (tl ++ [(i : Int)]) = 0) :
    solsT ts bs (n + 1) tl = solsT ts bs n (tl ++ [(i0 : Int)]) ∧ costT ts bs (n + 1) tl ≤ ts.length + costT ts bs n (tl ++ [(i0 : Int)]) := by
  constructor
  · show (List.range ts.length).flatMap _ = _
    rw [flat_one (i0 := i0) _ List.nodup_range (fun i hi hne => by
      split
      · rename_i hfi
        exact (hd i (List.mem_range.1 hi) hne hfi).1
      · rfl), if_pos (List.mem_range.2 h0), if_pos hf]
  · show ((List.range ts.length).map _).sum ≤ _
    have := sum_one (f := fun i => if fitB ts bs tl i = true then 1 + costT ts bs n (tl ++ [(i : Int)]) else 0) (i0 := i0) (k := costT ts bs n (tl ++ [(i0 : Int)])) (List.range ts.length) List.nodup_range (fun i hi hne => by
      split
      · rename_i hfi
        rw [(hd i (List.mem_range.1 hi) hne hfi).2]
        exact Nat.le_refl _
      · exact Nat.zero_le _) (by rw [if_pos hf]; exact Nat.le_refl _)
    rw [List.length_range] at this
    exact this
end Go.Fn
