/-
  The plain functions of IsTiling agree. No condition.
-/
import Derived.Test.YtgojoooilijiiaaPValidTiles
namespace Go.Fn
open Go Go.Tc

def frameB (xs : List Int) : Bool := decide (0 < xs.length) && decide (xs.length ≤ 30) && xs.all fun x => inB x 0 9999
theorem impl_frame (xs : List Int) (h : xs.length ≤ 1048576) : F_impl_isFrame xs = some (frameB xs) := by
  unfold F_impl_isFrame F_impl_size_int64 F_impl_colorsOk
  simp only [bnd_some_eq, impl_in, impl_allWithin xs 0 9999 h]
  unfold frameB
  have : inB (xs.length : Int) 1 30 = (decide (0 < xs.length) && decide (xs.length ≤ 30)) := by
    unfold inB
    congr 1
    · rw [decide_eq_decide]; omega
    · rw [decide_eq_decide]; omega
  rw [this]
  cases decide (0 < xs.length) && decide (xs.length ≤ 30) <;> rfl

/-- One row of tiles over the colors 'bottom': the colors on top, and the color that is left open to the right. -/
def rowGo (ts : List GTile) : List Int → List Int → Int → Option (List Int × Int)
  | [], [], left => some ([], left)
  | b :: bs, r :: rs, left => match idx ts r with
    | none => none
    | some t => if t.Left = left ∧ t.Bottom = b then (rowGo ts bs rs t.Right).map fun q => (t.Top :: q.1, q.2) else none
  | _, _, _ => none
def rowM (ts : List GTile) (bottom row : List Int) : Option (List Int) := (rowGo ts bottom row 0).bind fun q => if q.2 = 0 then some q.1 else none
def topsM (ts : List GTile) : List Int → List (List Int) → Option (List (List Int))
  | _, [] => some []
  | cur, r :: rs => (rowM ts cur r).bind fun t => (topsM ts t rs).map (t :: ·)
theorem rowGo_len {ts : List GTile} : ∀ {bs rs : List Int} {left : Int} {q : List Int × Int}, rowGo ts bs rs left = some q → bs.length = rs.length ∧ q.1.length = rs.length
  | [], [], _, q, h => by simp [rowGo] at h; subst h; simp
  | b :: bs, r :: rs, left, q, h => by
    unfold rowGo at h
    split at h
    · simp at h
    · split at h
      · rw [Option.map_eq_some_iff] at h
        obtain ⟨q', h1, rfl⟩ := h
        have := rowGo_len h1
        simp [this.1, this.2]
      · simp at h
  | [], _ :: _, _, _, h => by simp [rowGo] at h
  | _ :: _, [], _, _, h => by simp [rowGo] at h
theorem rowM_len {ts : List GTile} {bs rs t : List Int} (h : rowM ts bs rs = some t) : bs.length = rs.length ∧ t.length = rs.length := by
  unfold rowM at h
  rw [Option.bind_eq_some_iff] at h
  obtain ⟨q, h1, h2⟩ := h
  split at h2
  · simp at h2
    subst h2
    exact rowGo_len h1
  · simp at h2
theorem idx_in {α : Type} {xs : List α} {r : Int} (hl : xs.length ≤ 1048576) : inB r 0 (w64 ((xs.length : Int) - 1)) = (idx xs r).isSome := by
  rw [w64_in (by omega) (by omega)]
  unfold inB idx
  by_cases h : r < 0
  · simp [h]; omega
  · rw [if_neg h]
    by_cases h2 : r.toNat < xs.length
    · rw [List.getElem?_eq_getElem h2]
      simp
      omega
    · rw [List.getElem?_eq_none (by omega)]
      simp
      omega
theorem drop_cons {α : Type} {xs : List α} {k : Nat} (h : k < xs.length) : xs.drop k = xs[k] :: xs.drop (k + 1) := List.drop_eq_getElem_cons h

theorem rowGo_ne {ts : List GTile} {bs rs : List Int} {left : Int} (h : bs.length ≠ rs.length) : rowGo ts bs rs left = none := by
  cases e : rowGo ts bs rs left with
  | none => rfl
  | some q => exact absurd (rowGo_len e).1 h
def fewB (rows : List (List Int)) : Bool := decide (0 < rows.length) && decide (rows.length ≤ 40)
theorem impl_fits (t : GTile) (left b : Int) (last : Bool) : F_impl_fitsAt t left b last = some (decide (t.Left = left) && decide (t.Bottom = b) && (!last || decide (t.Right = 0))) := by
  unfold F_impl_fitsAt
  cases decide (t.Left = left) <;> cases decide (t.Bottom = b) <;> cases last <;> rfl
theorem impl_row_run (ts : List GTile) (s7 : List (List Int) × List Int × Int) (rs : List Int) (hl : rs.length = s7.2.1.length) (hn : rs.length ≤ 1048576) (hin : ∀ r ∈ rs, (idx ts r).isSome = true) :
    ∀ m k (acc : List Int) (left : Int), k + m = rs.length → acc.length = k → run (F_impl_topsOf_L2 ts s7 rs) (left, acc, (k : Int)) =
      some (match rowGo ts (s7.2.1.drop k) (rs.drop k) left with | none => .ret ([], false) | some q => if q.2 = 0 ∨ m = 0 then .brk (q.2, acc ++ q.1, (rs.length : Int)) else .ret ([], false)) := by
  intro m
  induction m with
  | zero =>
    intro k acc left hk ha
    obtain rfl : k = rs.length := by omega
    rw [List.drop_length, show s7.2.1.drop rs.length = [] by rw [hl]; exact List.drop_length]
    refine run_done ?_
    simp [F_impl_topsOf_L2, rowGo]
  | succ m ih =>
    intro k acc left hk ha
    have hkr : k < rs.length := by omega
    have hkb : k < s7.2.1.length := by omega
    rw [drop_cons hkb, drop_cons hkr, rowGo]
    obtain ⟨t, ht⟩ := Option.isSome_iff_exists.1 (hin _ (List.getElem_mem hkr))
    have hlast : w64 ((rs.length : Int) - 1) = (rs.length : Int) - 1 := w64_in (by omega) (by omega)
    rw [ht]
    simp only
    by_cases h1 : t.Left = left ∧ t.Bottom = s7.2.1[k]
    · rw [if_pos h1]
      by_cases h3 : m = 0 ∧ t.Right ≠ 0
      · obtain ⟨rfl, h3⟩ := h3
        have hk1 : k + 1 = rs.length := by omega
        rw [show rs.drop (k + 1) = [] by rw [hk1]; exact List.drop_length, show s7.2.1.drop (k + 1) = [] by rw [hk1, hl]; exact List.drop_length]
        simp only [rowGo, Option.map_some]
        rw [if_neg (by simp [h3])]
        refine run_done ?_
        simp only [F_impl_topsOf_L2, Int.ofNat_lt, hkr, decide_true, cond_true, idx_nat hkr, idx_nat hkb, bnd_some_eq, ht, impl_fits, h1.1, h1.2, hlast]
        rw [decide_eq_true (by omega : (k : Int) = (rs.length : Int) - 1), decide_eq_false h3]
        rfl
      · have step : F_impl_topsOf_L2 ts s7 rs (left, acc, (k : Int)) = some (.inl (t.Right, acc ++ [t.Top], ((k + 1 : Nat) : Int))) := by
          simp only [F_impl_topsOf_L2, Int.ofNat_lt, hkr, decide_true, cond_true, idx_nat hkr, idx_nat hkb, bnd_some_eq, ht, impl_fits, h1.1, h1.2, hlast]
          have : (!decide ((k : Int) = (rs.length : Int) - 1) || decide (t.Right = 0)) = true := by
            by_cases hm : m = 0
            · have : t.Right = 0 := by
                by_cases e : t.Right = 0
                · exact e
                · exact absurd ⟨hm, e⟩ h3
              simp [this]
            · rw [decide_eq_false (by omega : ¬ (k : Int) = (rs.length : Int) - 1)]
              rfl
          rw [this, app_ok (by simp; omega), w64_nat1 (by omega)]
          simp
        rw [run_next step, ih (k + 1) _ _ (by omega) (by simp [ha])]
        cases e : rowGo ts (s7.2.1.drop (k + 1)) (rs.drop (k + 1)) t.Right with
        | none => rfl
        | some q =>
          simp only [Option.map_some, List.append_assoc, List.singleton_append]
          by_cases hm : m = 0
          · have hr : t.Right = 0 := by
              by_cases e : t.Right = 0
              · exact e
              · exact absurd ⟨hm, e⟩ h3
            have hk1 : k + 1 = rs.length := by omega
            rw [show rs.drop (k + 1) = [] by rw [hk1]; exact List.drop_length, show s7.2.1.drop (k + 1) = [] by rw [hk1, hl]; exact List.drop_length] at e
            simp [rowGo] at e
            subst e
            simp [hr, hm]
          · simp [hm]
    · rw [if_neg h1]
      refine run_done ?_
      have : (decide (t.Left = left) && decide (t.Bottom = s7.2.1[k])) = false := by
        rw [Bool.and_eq_false_iff]
        by_cases e : t.Left = left
        · right
          simp only [decide_eq_false_iff_not]
          exact fun e2 => h1 ⟨e, e2⟩
        · left
          simp [e]
      simp only [F_impl_topsOf_L2, Int.ofNat_lt, hkr, decide_true, cond_true, idx_nat hkr, idx_nat hkb, bnd_some_eq, ht, impl_fits, this]
      rfl
theorem rowGo_in {ts : List GTile} : ∀ {bs rs : List Int} {left : Int} {q : List Int × Int}, rowGo ts bs rs left = some q → ∀ r ∈ rs, (idx ts r).isSome = true
  | [], [], _, _, _ => by simp
  | b :: bs, r :: rs, left, q, h => by
    unfold rowGo at h
    split at h
    · simp at h
    · rename_i t ht
      split at h
      · rw [Option.map_eq_some_iff] at h
        obtain ⟨q', h1, rfl⟩ := h
        intro x hx
        rcases List.mem_cons.1 hx with rfl | hx
        · rw [ht]; rfl
        · exact rowGo_in h1 x hx
      · simp at h
  | [], _ :: _, _, _, h => by simp [rowGo] at h
  | _ :: _, [], _, _, h => by simp [rowGo] at h
theorem impl_round (ts : List GTile) (bottom : List Int) (rows : List (List Int)) (hts : ts.length ≤ 1048576) (hb0 : 0 < bottom.length) (hb : bottom.length ≤ 1048576) (hn : Sml rows)
    (acc : List (List Int)) (cur : List Int) (i : Nat) (hi : i < rows.length) (hc : cur.length = bottom.length) (ha : acc.length ≤ 1048576) :
    F_impl_topsOf_L1 ts bottom rows (acc, cur, (i : Int)) = some (match rowM ts cur rows[i] with | none => .inr (.ret ([], false)) | some t => .inl (acc ++ [t], t, ((i + 1 : Nat) : Int))) := by
  unfold F_impl_topsOf_L1 F_impl_size_impl_Tile
  simp only [Int.ofNat_lt, hi, decide_true, cond_true, idx_nat hi, bnd_some_eq]
  have hri : rows[i].length ≤ 1048576 := (hn.mem hi).1
  have hn1 := hn.1
  by_cases hl : rows[i].length = bottom.length
  · rw [decide_eq_false (by simp [hl]), cond_false, impl_allWithin _ _ _ hri, bnd_some_eq]
    have hall : (rows[i].all fun x => inB x 0 (w64 ((ts.length : Int) - 1))) = rows[i].all fun x => (idx ts x).isSome := by
      congr 1
      funext x
      exact idx_in hts
    rw [hall]
    cases hA : rows[i].all fun x => (idx ts x).isSome
    · have : rowM ts cur rows[i] = none := by
        cases e : rowM ts cur rows[i] with
        | none => rfl
        | some t =>
          unfold rowM at e
          rw [Option.bind_eq_some_iff] at e
          obtain ⟨q, h1, h2⟩ := e
          have := rowGo_in h1
          rw [← List.all_eq_true] at this
          rw [this] at hA
          simp at hA
      rw [this]
      rfl
    · have hin := List.all_eq_true.1 hA
      have := impl_row_run ts (acc, cur, (i : Int)) rows[i] (by simp [hl, hc]) hri hin rows[i].length 0 [] 0 (by omega) rfl
      simp only [List.drop_zero, List.nil_append] at this
      simp only [Bool.not_true, cond_false, bnd_some_eq, Out.elim]
      rw [show run (F_impl_topsOf_L2 ts (acc, cur, (i : Int)) rows[i]) (0, ([] : List Int), 0) = _ from this]
      unfold rowM
      cases rowGo ts cur rows[i] 0 with
      | none => rfl
      | some q =>
        by_cases h0 : q.2 = 0
        · simp only [h0, true_or, if_true, Option.bind_some, bnd_some_eq, Out.elim]
          rw [app_ok (by simp; omega), w64_nat1 (by omega)]
          rfl
        · simp only [Option.bind_some]
          rw [if_neg (fun h => h.elim h0 (fun h => by omega)), if_neg h0]
          rfl
  · rw [decide_eq_true (by simpa using fun h => hl (by omega))]
    have : rowM ts cur rows[i] = none := by
      unfold rowM
      rw [rowGo_ne (by omega)]; rfl
    rw [this]
    rfl
theorem impl_tops_run (ts : List GTile) (bottom : List Int) (rows : List (List Int)) (hts : ts.length ≤ 1048576) (hb0 : 0 < bottom.length) (hb : bottom.length ≤ 1048576) (hn : Sml rows) :
    ∀ m i (acc : List (List Int)) (cur : List Int), i + m = rows.length → cur.length = bottom.length → acc.length = i → run (F_impl_topsOf_L1 ts bottom rows) (acc, cur, (i : Int)) =
      some (match topsM ts cur (rows.drop i) with | none => .ret ([], false) | some tl => .brk (acc ++ tl, tl.getLastD cur, (rows.length : Int))) := by
  intro m
  have hn1 := hn.1
  induction m with
  | zero =>
    intro i acc cur hi hc ha
    obtain rfl : i = rows.length := by omega
    rw [List.drop_length]
    refine run_done ?_
    simp [F_impl_topsOf_L1, topsM]
  | succ m ih =>
    intro i acc cur hi hc ha
    have hir : i < rows.length := by omega
    have hr := impl_round ts bottom rows hts hb0 hb hn acc cur i hir hc (by omega)
    rw [drop_cons hir, topsM]
    cases e : rowM ts cur rows[i] with
    | none =>
      rw [e] at hr
      rw [run_done hr]; rfl
    | some t =>
      rw [e] at hr
      have hl := rowM_len e
      rw [run_next hr, ih (i + 1) _ _ (by omega) (by omega) (by simp [ha])]
      simp only [Option.bind_some]
      cases topsM ts t (rows.drop (i + 1)) with
      | none => rfl
      | some tl =>
        simp only [Option.map_some]
        rw [List.getLastD_cons, List.append_assoc]
        rfl
theorem impl_tops (ts : List GTile) (bottom : List Int) (rows : List (List Int)) (hts : ts.length ≤ 1048576) (hb0 : 0 < bottom.length) (hb : bottom.length ≤ 1048576) (hn : Sml rows) :
    F_impl_topsOf ts bottom rows = some (if fewB rows = true then match topsM ts bottom rows with | none => ([], false) | some tl => (tl, true) else ([], false)) := by
  unfold F_impl_topsOf F_impl_size_Sint64
  simp only [bnd_some_eq, impl_in]
  have : inB (rows.length : Int) 1 40 = fewB rows := by
    unfold inB fewB
    congr 1
    · rw [decide_eq_decide]; omega
    · rw [decide_eq_decide]; omega
  rw [this]
  cases fewB rows
  · rfl
  · have := impl_tops_run ts bottom rows hts hb0 hb hn rows.length 0 [] bottom (by omega) rfl rfl
    simp only [List.drop_zero, List.nil_append] at this
    simp only [Bool.not_true, cond_false]
    rw [show run (F_impl_topsOf_L1 ts bottom rows) (([] : List (List Int)), bottom, 0) = _ from this]
    cases topsM ts bottom rows <;> rfl
theorem impl_tiling (ts : List GTile) (bottom : List Int) (rows : List (List Int)) (hts : ts.length ≤ 1048576) (hb : bottom.length ≤ 1048576) (hn : Sml rows) :
    F_impl_IsTiling ts bottom rows = some (validT ts && frameB bottom && fewB rows && (topsM ts bottom rows).isSome) := by
  unfold F_impl_IsTiling
  rw [impl_valid ts hts, bnd_some_eq, impl_frame bottom hb]
  cases validT ts
  · rfl
  · cases hf : frameB bottom
    · rfl
    · have hb0 : 0 < bottom.length := by
        unfold frameB at hf
        simp only [Bool.and_eq_true, decide_eq_true_eq] at hf
        exact hf.1.1
      rw [impl_tops ts bottom rows hts hb0 hb hn]
      cases fewB rows
      · rfl
      · cases topsM ts bottom rows <;> rfl
end Go.Fn
