/-
  The one move of a configuration's word, on both sides. No program in sight. No condition.
-/
import Derived.Test.YtneglngdbcefgaaPHdA
import Derived.Test.YtneglngdbcefgaaPMatch
namespace Go.Fn
open Go Go.Tc
def isS (m : GMachine) (x : Int) : Bool := decide (m.Symbols ≤ x) && decide (x < m.Symbols + m.States)
def offW (m : GMachine) (w : GRewrite) : Nat := (w.From.findIdx? (isS m)).getD 0
def mtc (m : GMachine) (X : List Int) (p : Int) (Y : List Int) (w : GRewrite) : Bool := decide (((Wd m X p Y).drop (X.length + 1 - offW m w)).take w.From.length = w.From)
theorem off_own {m : GMachine} {s q : Nat} (T : Tiny m s q) {w : GRewrite} (hw : w ∈ ownL m s) : offW m w ≤ 1 ∧ w.From.findIdx? (isS m) = some (offW m w) ∧ w.From.length ≤ 3 ∧ w.To.length ≤ 5 := by
  have hs := T.hs
  have hq := T.hq
  have b2 := T.b2
  obtain ⟨p', a, hp, ha, hn, hsh⟩ := (ownL_mem T w).1 hw
  have f0 : ∀ l : List Int, ((m.Symbols + (p' : Int)) :: l).findIdx? (isS m) = some 0 := by
    intro l
    unfold isS
    rw [List.findIdx?_cons, decide_eq_true (by omega), decide_eq_true (by omega)]
    rfl
  have f1 : ∀ (c : Int) (l : List Int), (c < m.Symbols ∨ m.Symbols + m.States ≤ c) → (c :: (m.Symbols + (p' : Int)) :: l).findIdx? (isS m) = some 1 := by
    intro c l hc
    rw [List.findIdx?_cons, f0]
    have : isS m c = false := by
      unfold isS
      rcases hc with hc | hc
      · rw [decide_eq_false (by omega), Bool.false_and]
      · rw [decide_eq_false (by omega : ¬ c < m.Symbols + m.States), Bool.and_false]
    rw [this]
    rfl
  unfold offW
  rcases hsh with ⟨hm, rfl | ⟨h0, rfl⟩⟩ | ⟨hm, ⟨c, hc, rfl⟩ | rfl | ⟨h0, ⟨c, hc, rfl⟩ | rfl⟩⟩
  · simp only [f0]; simp
  · simp only [f0]; simp
  · simp only [f1 _ _ (show c < m.Symbols ∨ m.Symbols + m.States ≤ c by omega)]; simp
  · simp only [f1 _ _ (show m.Symbols + m.States < m.Symbols ∨ m.Symbols + m.States ≤ m.Symbols + m.States by omega)]; simp
  · simp only [f1 _ _ (show c < m.Symbols ∨ m.Symbols + m.States ≤ c by omega)]; simp
  · simp only [f1 _ _ (show m.Symbols + m.States < m.Symbols ∨ m.Symbols + m.States ≤ m.Symbols + m.States by omega)]; simp
theorem filter_one {p : Nat → Bool} {a0 : Nat} : ∀ n : Nat, (∀ a, a < n → p a = true → a = a0) → (List.range n).filter p = if a0 < n ∧ p a0 = true then [a0] else []
  | 0, _ => by simp
  | n + 1, h => by
    rw [List.range_succ, List.filter_append, filter_one n (fun a ha => h a (by omega))]
    by_cases hp : p n = true
    · have e := h n (by omega) hp
      subst e
      rw [if_neg (by omega), if_pos ⟨by omega, hp⟩]
      simp [hp]
    · have hpf : p n = false := by simpa using hp
      have : (a0 < n ∧ p a0 = true) ↔ (a0 < n + 1 ∧ p a0 = true) := by
        constructor
        · rintro ⟨h1, h2⟩; exact ⟨by omega, h2⟩
        · rintro ⟨h1, h2⟩
          refine ⟨?_, h2⟩
          by_cases he : a0 = n
          · subst he; exact absurd h2 hp
          · omega
      by_cases hc : a0 < n ∧ p a0 = true
      · rw [if_pos hc, if_pos (this.1 hc)]
        simp [hpf]
      · rw [if_neg hc, if_neg (fun e => hc (this.2 e))]
        simp [hpf]
theorem cut3 (u : List Int) (a n : Nat) : u = u.take a ++ ((u.drop a).take n ++ u.drop (a + n)) := by
  conv => lhs; rw [← List.take_append_drop a u]
  congr 1
  conv => lhs; rw [← List.take_append_drop n (u.drop a), List.drop_drop]
section
variable {m : GMachine} {s q : Nat} {X : List Int} {p : Int} {Y : List Int}
def Wn (m : GMachine) (X : List Int) (p : Int) (Y : List Int) : List Int := Wd m (nxX (rl m p Y) X) (rl m p Y).Next (nxY (rl m p Y) X Y)
theorem occ_at (T : Tiny m s q) (C : Cfw m X p Y) {w : GRewrite} (hw : w ∈ ownL m s) {a : Nat} (ha : a ≤ (Wd m X p Y).length) (h : ((Wd m X p Y).drop a).take w.From.length = w.From) : rl m p Y ≠ noR ∧ newW (Wd m X p Y) w a = Wn m X p Y ∧ a + offW m w = X.length + 1 := by
  have hc := cut3 (Wd m X p Y) a w.From.length
  rw [h] at hc
  obtain ⟨h1, h2, off, _, h3, h4⟩ := occ T C hw hc
  refine ⟨h1, ?_, ?_⟩
  · unfold newW putW
    rw [List.append_assoc, h2]
    rfl
  · have : w.From.findIdx? (isS m) = some off := h4
    unfold offW
    rw [this]
    rw [List.length_take, Nat.min_eq_left ha] at h3
    exact h3
theorem posn_own (T : Tiny m s q) (C : Cfw m X p Y) {w : GRewrite} (hw : w ∈ ownL m s) : posn (Wd m X p Y) w.From = if mtc m X p Y w = true then [X.length + 1 - offW m w] else [] := by
  have hl := Wd_len m X p Y
  unfold posn
  rw [filter_one (a0 := X.length + 1 - offW m w) _ (fun a ha h => by
    have := (occ_at T C hw (a := a) (by omega) (of_decide_eq_true h)).2.2
    omega)]
  unfold mtc
  by_cases h : decide (((Wd m X p Y).drop (X.length + 1 - offW m w)).take w.From.length = w.From) = true
  · rw [if_pos ⟨by omega, h⟩, if_pos h]
  · rw [if_neg (fun e => h e.2), if_neg h]
theorem mtc_new (T : Tiny m s q) (C : Cfw m X p Y) {w : GRewrite} (hw : w ∈ ownL m s) (h : mtc m X p Y w = true) : rl m p Y ≠ noR ∧ newW (Wd m X p Y) w (X.length + 1 - offW m w) = Wn m X p Y := by
  have hl := Wd_len m X p Y
  obtain ⟨h1, h2, _⟩ := occ_at T C hw (a := X.length + 1 - offW m w) (by omega) (of_decide_eq_true h)
  exact ⟨h1, h2⟩
theorem flat_first {β : Type} {g : Nat → List β} {k : Nat} {x : β} {r : List β} (h0 : ∀ j, j < k → g j = []) (hk : g k = x :: r) : ∀ n, k < n → ∃ rest, (List.range n).flatMap g = x :: rest
  | 0, h => by omega
  | n + 1, h => by
    rw [List.range_succ, List.flatMap_append]
    by_cases he : k = n
    · subst he
      have : (List.range k).flatMap g = [] := by
        rw [List.flatMap_eq_nil_iff]
        intro j hj
        exact h0 j (List.mem_range.1 hj)
      rw [this]
      exact ⟨r, by simp [hk]⟩
    · obtain ⟨rest, e⟩ := flat_first h0 hk n (by omega)
      rw [e]
      exact ⟨rest ++ [n].flatMap g, rfl⟩
/-- The first rule that occurs. -/
theorem first_own (T : Tiny m s q) (C : Cfw m X p Y) (hn : rl m p Y ≠ noR) : ∃ (k : Nat) (hk : k < (ownL m s).length), mtc m X p Y (ownL m s)[k] = true ∧ ∀ j (hj : j < k), mtc m X p Y ((ownL m s)[j]'(by omega)) = false := by
  obtain ⟨w, hw, pre, suf, h⟩ := occ_ex T C hn
  have hm : mtc m X p Y w = true := by
    have e1 : ((Wd m X p Y).drop pre.length).take w.From.length = w.From := by
      rw [h, List.drop_left' rfl, List.take_left' rfl]
    have hl : pre.length ≤ (Wd m X p Y).length := by rw [h, List.length_append]; omega
    have := (occ_at T C hw hl e1).2.2
    unfold mtc
    rw [show X.length + 1 - offW m w = pre.length by omega]
    exact decide_eq_true e1
  cases hf : (ownL m s).findIdx? (mtc m X p Y) with
  | none =>
    have := List.findIdx?_eq_none_iff.1 hf w hw
    rw [this] at hm
    cases hm
  | some k =>
    obtain ⟨hk, h1, h2⟩ := List.findIdx?_eq_some_iff_getElem.1 hf
    exact ⟨k, hk, h1, fun j hj => by have := h2 j hj; simpa using this⟩
theorem none_own (T : Tiny m s q) (C : Cfw m X p Y) (hn : rl m p Y = noR) : ∀ w ∈ ownL m s, mtc m X p Y w = false := by
  intro w hw
  cases h : mtc m X p Y w
  · rfl
  · exact absurd hn (mtc_new T C hw h).1
theorem getD_own {k : Nat} (hk : k < (ownL m s).length) : (ownL m s).getD k zR = (ownL m s)[k] := by
  rw [List.getD_eq_getElem?_getD, List.getElem?_eq_getElem hk]
  rfl
theorem mvK_none (T : Tiny m s q) (C : Cfw m X p Y) {j : Nat} (hj : j < (ownL m s).length) (h : mtc m X p Y (ownL m s)[j] = false) : mvK (Wd m X p Y) j ((ownL m s).getD j zR) = [] := by
  unfold mvK
  rw [getD_own hj, posn_own T C (List.getElem_mem hj), h]
  rfl
theorem moves_none (T : Tiny m s q) (C : Cfw m X p Y) (hn : rl m p Y = noR) : movesL (ownL m s) (Wd m X p Y) = [] ∧ tooL (ownL m s) (Wd m X p Y) = false := by
  have h := none_own T C hn
  constructor
  · unfold movesL
    rw [List.flatMap_eq_nil_iff]
    intro j hj
    have hj := List.mem_range.1 hj
    exact mvK_none T C hj (h _ (List.getElem_mem hj))
  · unfold tooL
    rw [List.any_eq_false]
    intro w hw
    unfold tooK
    rw [posn_own T C hw, h w hw]
    simp
theorem moves_some (T : Tiny m s q) (C : Cfw m X p Y) {k : Nat} (hk : k < (ownL m s).length) (h1 : mtc m X p Y (ownL m s)[k] = true) (h2 : ∀ j (hj : j < k), mtc m X p Y ((ownL m s)[j]'(by omega)) = false) :
    (¬ 400 < (Wn m X p Y).length → ∃ rest, movesL (ownL m s) (Wd m X p Y) = ⟨(k : Int), ((X.length + 1 - offW m (ownL m s)[k] : Nat) : Int), Wn m X p Y⟩ :: rest) ∧ (400 < (Wn m X p Y).length → movesL (ownL m s) (Wd m X p Y) = [] ∧ tooL (ownL m s) (Wd m X p Y) = true) := by
  have tb : ∀ w ∈ ownL m s, mtc m X p Y w = true → tooB (Wd m X p Y) w (X.length + 1 - offW m w) = decide (400 < (Wn m X p Y).length) := by
    intro w hw h
    unfold tooB
    rw [(mtc_new T C hw h).2]
  constructor
  · intro hl
    unfold movesL
    refine flat_first (k := k) (r := []) (fun j hj => mvK_none T C (by omega) (h2 j hj)) ?_ _ hk
    unfold mvK
    rw [getD_own hk, posn_own T C (List.getElem_mem hk), h1, if_pos rfl]
    have := tb _ (List.getElem_mem hk) h1
    rw [List.filter_cons, this, decide_eq_false hl]
    simp [(mtc_new T C (List.getElem_mem hk) h1).2]
  · intro hl
    constructor
    · unfold movesL
      rw [List.flatMap_eq_nil_iff]
      intro j hj
      have hj := List.mem_range.1 hj
      cases h : mtc m X p Y (ownL m s)[j]
      · exact mvK_none T C hj h
      · unfold mvK
        rw [getD_own hj, posn_own T C (List.getElem_mem hj), h, if_pos rfl]
        have := tb _ (List.getElem_mem hj) h
        rw [List.filter_cons, this, decide_eq_true hl]
        simp
    · unfold tooL
      rw [List.any_eq_true]
      refine ⟨_, List.getElem_mem hk, ?_⟩
      unfold tooK
      rw [posn_own T C (List.getElem_mem hk), h1, if_pos rfl, List.any_cons, tb _ (List.getElem_mem hk) h1, decide_eq_true hl]
      rfl
/-! ### The program's move -/
theorem impl_idxF (xs : List Int) (φ : Int → Option Bool) (p : Int → Bool) (hφ : ∀ x, φ x = some (p x)) (h : xs.length ≤ 1048576) : F_slices_IndexFunc_Sint64_int64 xs φ = some (match xs.findIdx? p with | none => -1 | some i => (i : Int)) := by
  unfold F_slices_IndexFunc_Sint64_int64
  refine run_find xs (by omega) p (fun i hi => ?_) (by simp [F_slices_IndexFunc_Sint64_int64_L1])
  simp only [F_slices_IndexFunc_Sint64_int64_L1, Int.ofNat_lt, hi, decide_true, cond_true, idx_nat hi, bnd_some_eq, hφ]
  cases p xs[i] <;> rfl
theorem only_isS (m : GMachine) (x : Int) : F_impl_alphabet_onlyMove_1 x ⟨m.Symbols, m.Symbols + m.States⟩ = some (isS m x) := by
  unfold F_impl_alphabet_onlyMove_1 isS
  cases decide (m.Symbols ≤ x) <;> rfl
theorem Wd_idx (b2 : 0 ≤ m.States) (C : Cfw m X p Y) : (Wd m X p Y).findIdx? (isS m) = some (X.length + 1) := by
  have h1 : ((m.Symbols + m.States) :: X).findIdx? (isS m) = none := by
    rw [List.findIdx?_eq_none_iff]
    intro x hx
    unfold isS
    rcases List.mem_cons.1 hx with rfl | hx
    · rw [decide_eq_false (by omega : ¬ m.Symbols + m.States < m.Symbols + m.States), Bool.and_false]
    · have := C.sx x hx
      rw [decide_eq_false (by omega), Bool.false_and]
  have h2 : ((m.Symbols + p) :: (Y ++ [m.Symbols + m.States])).findIdx? (isS m) = some 0 := by
    have := C.p0
    have := C.p1
    rw [List.findIdx?_cons]
    unfold isS
    rw [decide_eq_true (by omega), decide_eq_true (by omega)]
    rfl
  have hW : Wd m X p Y = ((m.Symbols + m.States) :: X) ++ ((m.Symbols + p) :: (Y ++ [m.Symbols + m.States])) := rfl
  rw [hW, List.findIdx?_append, h1, h2]
  simp
theorem impl_only (T : Tiny m s q) (C : Cfw m X p Y) (hW : (Wd m X p Y).length ≤ 400) (hL : (ownL m s).length ≤ 1000) :
    (rl m p Y = noR → F_impl_alphabet_onlyMove ⟨m.Symbols, m.Symbols + m.States⟩ (ownL m s) (Wd m X p Y) = some (⟨0, 0, []⟩, false)) ∧
    (∀ (k : Nat) (hk : k < (ownL m s).length), mtc m X p Y (ownL m s)[k] = true → (∀ j (hj : j < k), mtc m X p Y ((ownL m s)[j]'(by omega)) = false) → F_impl_alphabet_onlyMove ⟨m.Symbols, m.Symbols + m.States⟩ (ownL m s) (Wd m X p Y) = some (⟨(k : Int), ((X.length + 1 - offW m (ownL m s)[k] : Nat) : Int), Wn m X p Y⟩, true)) := by
  have hl := Wd_len m X p Y
  have hq := T.hq
  have hpl : F_slices_IndexFunc_Sint64_int64 (Wd m X p Y) (fun x_ => F_impl_alphabet_onlyMove_1 x_ ⟨m.Symbols, m.Symbols + m.States⟩) = some ((X.length + 1 : Nat) : Int) := by
    rw [impl_idxF _ _ (isS m) (only_isS m) (by omega), Wd_idx (by omega) C]
  have step : ∀ j (hj : j < (ownL m s).length), F_impl_alphabet_onlyMove_L1 ⟨m.Symbols, m.Symbols + m.States⟩ (ownL m s) (Wd m X p Y) ((X.length + 1 : Nat) : Int) (j : Int) = cond (mtc m X p Y (ownL m s)[j]) (some (.inr (.ret (⟨(j : Int), ((X.length + 1 - offW m (ownL m s)[j] : Nat) : Int), Wn m X p Y⟩, true)))) (some (.inl ((j + 1 : Nat) : Int))) := by
    intro j hj
    obtain ⟨o1, o2, o3, o4⟩ := off_own T (List.getElem_mem hj)
    have e : w64 (((X.length + 1 : Nat) : Int) - (offW m (ownL m s)[j] : Int)) = ((X.length + 1 - offW m (ownL m s)[j] : Nat) : Int) := by
      rw [w64_in (by omega) (by omega)]
      omega
    simp only [F_impl_alphabet_onlyMove_L1]
    rw [decide_eq_true (by omega), cond_true, idx_nat hj, bnd_some_eq, impl_idxF _ _ (isS m) (only_isS m) (by omega), o2, bnd_some_eq]
    simp only
    rw [e, decide_eq_true (by omega), cond_true, slc_from (by omega), bnd_some_eq, impl_begins _ _ (by rw [List.length_drop]; omega), bnd_some_eq]
    have hmt : decide (((Wd m X p Y).drop (X.length + 1 - offW m (ownL m s)[j])).take (ownL m s)[j].From.length = (ownL m s)[j].From) = mtc m X p Y (ownL m s)[j] := rfl
    rw [hmt, bnd_some_eq]
    simp only [Out.elim]
    cases h : mtc m X p Y (ownL m s)[j]
    · rw [cond_false, cond_false, w64_nat1 (by omega)]
    · have hfit : X.length + 1 - offW m (ownL m s)[j] + (ownL m s)[j].From.length ≤ (Wd m X p Y).length := take_eq_len (of_decide_eq_true h) (by omega)
      rw [cond_true, cond_true, impl_put _ _ _ _ (by omega) (by omega) hfit, bnd_some_eq]
      have hnw := (mtc_new T C (List.getElem_mem hj) h).2
      unfold newW at hnw
      rw [hnw]
  have go : ∀ (n i : Nat) (_ : i + n ≤ (ownL m s).length), (∀ j (hj : j < i + n), i ≤ j → mtc m X p Y ((ownL m s)[j]'(by omega)) = false) → run (F_impl_alphabet_onlyMove_L1 ⟨m.Symbols, m.Symbols + m.States⟩ (ownL m s) (Wd m X p Y) ((X.length + 1 : Nat) : Int)) (i : Int) = run (F_impl_alphabet_onlyMove_L1 ⟨m.Symbols, m.Symbols + m.States⟩ (ownL m s) (Wd m X p Y) ((X.length + 1 : Nat) : Int)) ((i + n : Nat) : Int) := by
    intro n
    induction n with
    | zero => intro i _ _; rfl
    | succ n ih =>
      intro i hi hm
      have h := step i (by omega)
      rw [hm i (by omega) (Nat.le_refl _), cond_false] at h
      rw [run_next h, ih (i + 1) (by omega) (fun j hj hij => hm j (by omega) (by omega))]
      congr 1
      omega
  constructor
  · intro hn
    have h0 := none_own T C hn
    unfold F_impl_alphabet_onlyMove
    rw [hpl, bnd_some_eq, show (0 : Int) = ((0 : Nat) : Int) from rfl, go (ownL m s).length 0 (by omega) (fun j hj _ => h0 _ (List.getElem_mem _)), Nat.zero_add, run_done (x := .brk ((ownL m s).length : Int)) (by simp only [F_impl_alphabet_onlyMove_L1]; rw [decide_eq_false (by omega), cond_false])]
    rfl
  · intro k hk h1 h2
    have h := step k hk
    rw [h1, cond_true] at h
    unfold F_impl_alphabet_onlyMove
    rw [hpl, bnd_some_eq, show (0 : Int) = ((0 : Nat) : Int) from rfl, go k 0 (by omega) (fun j hj _ => h2 j (by omega)), Nat.zero_add, run_done h]
    rfl
end
end Go.Fn
