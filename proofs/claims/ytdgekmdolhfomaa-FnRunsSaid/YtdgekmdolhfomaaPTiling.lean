/-
  The plain functions of IsTiling agree. No condition.
-/
import Derived.Test.YtdgekmdolhfomaaPValidTiles
namespace Go.Fn
open Go Go.Tc

def frameB (xs : List Int) : Bool := decide (0 < xs.length) && decide (xs.length ≤ 30) && xs.all fun x => inB x 0 9999
theorem spec_frame (xs : List Int) (h : xs.length ≤ 1048576) : F_spec_l33Frame xs = some (frameB xs) := by
  unfold F_spec_l33Frame
  rw [run_allp xs (by omega) (fun x => inB x 0 9999) (.ret false) (.brk (xs.length : Int)) (fun i hi => by
    simp only [F_spec_l33Frame_L1, Int.ofNat_lt, hi, decide_true, cond_true, idx_nat hi, bnd_some_eq, spec_color]
    cases inB xs[i] 0 9999 <;> rfl) (by simp [F_spec_l33Frame_L1])]
  unfold frameB
  cases xs.all fun x => inB x 0 9999
  · simp [Out.elim]
  · by_cases h0 : 0 < xs.length
    · by_cases h1 : xs.length ≤ 30
      · simp [Out.elim, h0, h1]; omega
      · simp only [cond_true, bnd_some_eq, Out.elim]
        rw [decide_eq_true (by omega : 0 < (xs.length : Int)), decide_eq_false (by omega : ¬ (xs.length : Int) ≤ 30), decide_eq_false h1]
        simp
    · obtain rfl : xs = [] := List.eq_nil_of_length_eq_zero (by omega)
      simp [Out.elim]
theorem impl_frame (xs : List Int) (h : xs.length ≤ 1048576) : F_impl_isFrame xs = some (frameB xs) := by
  unfold F_impl_isFrame F_impl_size_int64 F_impl_colorsOk
  simp only [bnd_some_eq, impl_in, impl_allWithin xs 0 9999 h]
  unfold frameB
  have : inB (xs.length : Int) 1 30 = (decide (0 < xs.length) && decide (xs.length ≤ 30)) := by
    unfold inB
    congr 1
    · rw [decide_eq_decide]; omega
    · rw [decide_eq_decide]; omega
  rw [this]
  cases decide (0 < xs.length) && decide (xs.length ≤ 30) <;> rfl

/-- One row of tiles over the colors 'bottom': the colors on top, and the color that is left open to the right. -/
def rowGo (ts : List GTile) : List Int → List Int → Int → Option (List Int × Int)
  | [], [], left => some ([], left)
  | b :: bs, r :: rs, left => match idx ts r with
    | none => none
    | some t => if t.Left = left ∧ t.Bottom = b then (rowGo ts bs rs t.Right).map fun q => (t.Top :: q.1, q.2) else none
  | _, _, _ => none
def rowM (ts : List GTile) (bottom row : List Int) : Option (List Int) := (rowGo ts bottom row 0).bind fun q => if q.2 = 0 then some q.1 else none
def topsM (ts : List GTile) : List Int → List (List Int) → Option (List (List Int))
  | _, [] => some []
  | cur, r :: rs => (rowM ts cur r).bind fun t => (topsM ts t rs).map (t :: ·)
theorem rowGo_len {ts : List GTile} : ∀ {bs rs : List Int} {left : Int} {q : List Int × Int}, rowGo ts bs rs left = some q → bs.length = rs.length ∧ q.1.length = rs.length
  | [], [], _, q, h => by simp [rowGo] at h; subst h; simp
  | b :: bs, r :: rs, left, q, h => by
    unfold rowGo at h
    split at h
    · simp at h
    · split at h
      · rw [Option.map_eq_some_iff] at h
        obtain ⟨q', h1, rfl⟩ := h
        have := rowGo_len h1
        simp [this.1, this.2]
      · simp at h
  | [], _ :: _, _, _, h => by simp [rowGo] at h
  | _ :: _, [], _, _, h => by simp [rowGo] at h
theorem rowM_len {ts : List GTile} {bs rs t : List Int} (h : rowM ts bs rs = some t) : bs.length = rs.length ∧ t.length = rs.length := by
  unfold rowM at h
  rw [Option.bind_eq_some_iff] at h
  obtain ⟨q, h1, h2⟩ := h
  split at h2
  · simp at h2
    subst h2
    exact rowGo_len h1
  · simp at h2
theorem idx_in {α : Type} {xs : List α} {r : Int} (hl : xs.length ≤ 1048576) : inB r 0 (w64 ((xs.length : Int) - 1)) = (idx xs r).isSome := by
  rw [w64_in (by omega) (by omega)]
  unfold inB idx
  by_cases h : r < 0
  · simp [h]; omega
  · rw [if_neg h]
    by_cases h2 : r.toNat < xs.length
    · rw [List.getElem?_eq_getElem h2]
      simp
      omega
    · rw [List.getElem?_eq_none (by omega)]
      simp
      omega
theorem drop_cons {α : Type} {xs : List α} {k : Nat} (h : k < xs.length) : xs.drop k = xs[k] :: xs.drop (k + 1) := List.drop_eq_getElem_cons h

theorem rowGo_ne {ts : List GTile} {bs rs : List Int} {left : Int} (h : bs.length ≠ rs.length) : rowGo ts bs rs left = none := by
  cases e : rowGo ts bs rs left with
  | none => rfl
  | some q => exact absurd (rowGo_len e).1 h
def fewB (rows : List (List Int)) : Bool := decide (0 < rows.length) && decide (rows.length ≤ 40)
theorem impl_fits (t : GTile) (left b : Int) (last : Bool) : F_impl_fitsAt t left b last = some (decide (t.Left = left) && decide (t.Bottom = b) && (!last || decide (t.Right = 0))) := by
  unfold F_impl_fitsAt
  cases decide (t.Left = left) <;> cases decide (t.Bottom = b) <;> cases last <;> rfl
theorem rowGo_in {ts : List GTile} : ∀ {bs rs : List Int} {left : Int} {q : List Int × Int}, rowGo ts bs rs left = some q → ∀ r ∈ rs, (idx ts r).isSome = true
  | [], [], _, _, _ => by simp
  | b :: bs, r :: rs, left, q, h => by
    unfold rowGo at h
    split at h
    · simp at h
    · rename_i t ht
      split at h
      · rw [Option.map_eq_some_iff] at h
        obtain ⟨q', h1, rfl⟩ := h
        intro x hx
        rcases List.mem_cons.1 hx with rfl | hx
        · rw [ht]; rfl
        · exact rowGo_in h1 x hx
      · simp at h
  | [], _ :: _, _, _, h => by simp [rowGo] at h
  | _ :: _, [], _, _, h => by simp [rowGo] at h
end Go.Fn
