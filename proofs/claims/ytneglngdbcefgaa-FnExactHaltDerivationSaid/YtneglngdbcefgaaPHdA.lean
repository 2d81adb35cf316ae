/-
  Words of configurations, and the rules of a machine in them. No program in sight. No condition.
-/
import Derived.Test.YtneglngdbcefgaaPSteps
import Derived.Test.YtneglngdbcefgaaPSearch
namespace Go.Fn
open Go Go.Tc
structure Tiny (m : GMachine) (s q : Nat) : Prop where
  hs : m.Symbols = s
  hq : m.States = q
  b1 : 2 ≤ s
  b2 : 1 ≤ q
  b3 : s + q ≤ 4
  hl : m.Rules.length = q * s
  hr : ∀ r ∈ m.Rules, ruleB m.Symbols m.States r = true
def Wd (m : GMachine) (X : List Int) (p : Int) (Y : List Int) : List Int := (m.Symbols + m.States) :: (X ++ ((m.Symbols + p) :: (Y ++ [m.Symbols + m.States])))
theorem Wd_len (m : GMachine) (X : List Int) (p : Int) (Y : List Int) : (Wd m X p Y).length = X.length + Y.length + 3 := by
  unfold Wd
  simp only [List.length_cons, List.length_append, List.length_nil]
  omega
def sym (m : GMachine) (X : List Int) : Prop := ∀ x ∈ X, 0 ≤ x ∧ x < m.Symbols
structure Cfw (m : GMachine) (X : List Int) (p : Int) (Y : List Int) : Prop where
  sx : sym m X
  sy : sym m Y
  p0 : 0 ≤ p
  p1 : p < m.States
def rl (m : GMachine) (p : Int) (Y : List Int) : GRule := m.Rules.getD (p * m.Symbols + Y.headD 0).toNat noR
def nxX (r : GRule) (X : List Int) : List Int := if r.Move = 1 then X ++ [r.Write] else X.dropLast
def nxY (r : GRule) (X Y : List Int) : List Int := if r.Move = 1 then Y.tail else X.getLastD 0 :: r.Write :: Y.tail
/-- The rules of a machine, one by one. -/
def shape (m : GMachine) (p a : Int) (r : GRule) (w : GRewrite) : Prop :=
  (r.Move = 1 ∧ (w = ⟨[m.Symbols + p, a], [r.Write, m.Symbols + r.Next]⟩ ∨ (a = 0 ∧ w = ⟨[m.Symbols + p, m.Symbols + m.States], [r.Write, m.Symbols + r.Next, m.Symbols + m.States]⟩))) ∨
  (r.Move ≠ 1 ∧ ((∃ c : Int, (0 ≤ c ∧ c < m.Symbols) ∧ w = ⟨[c, m.Symbols + p, a], [m.Symbols + r.Next, c, r.Write]⟩) ∨ w = ⟨[m.Symbols + m.States, m.Symbols + p, a], [m.Symbols + m.States, m.Symbols + r.Next, 0, r.Write]⟩ ∨
    (a = 0 ∧ ((∃ c : Int, (0 ≤ c ∧ c < m.Symbols) ∧ w = ⟨[c, m.Symbols + p, m.Symbols + m.States], [m.Symbols + r.Next, c, r.Write, m.Symbols + m.States]⟩) ∨ w = ⟨[m.Symbols + m.States, m.Symbols + p, m.Symbols + m.States], [m.Symbols + m.States, m.Symbols + r.Next, 0, r.Write, m.Symbols + m.States]⟩))))
theorem rwOf_mem {m : GMachine} {s q : Nat} (T : Tiny m s q) {p a : Nat} (hp : p < q) (ha : a < s) {r : GRule} (hr : r ∈ m.Rules) (hn : r ≠ noR) (w : GRewrite) : w ∈ rwOf s m.Symbols (m.Symbols + m.States) ((p * s + a : Nat) : Int) r ↔ shape m (p : Int) (a : Int) r w := by
  have hs := T.hs
  have hq := T.hq
  have b3 := T.b3
  have hd : Int.tdiv ((p * s + a : Nat) : Int) m.Symbols = (p : Int) := by
    rw [hs, Int.tdiv_eq_ediv_of_nonneg (by omega)]
    have : (p * s + a) / s = p := by rw [Nat.mul_comm, Nat.mul_add_div (by omega), Nat.div_eq_of_lt ha, Nat.add_zero]
    omega
  have hm : Int.tmod ((p * s + a : Nat) : Int) m.Symbols = (a : Int) := by
    rw [hs, Int.tmod_eq_emod_of_nonneg (by omega)]
    have : (p * s + a) % s = a := by rw [Nat.mul_comm, Nat.mul_add_mod, Nat.mod_eq_of_lt ha]
    omega
  have hnx : 0 ≤ r.Next ∧ r.Next ≤ m.States - 1 := by
    have h := T.hr r hr
    unfold ruleB at h
    simp only [Bool.or_eq_true, Bool.and_eq_true, decide_eq_true_eq] at h
    rcases h with h | h
    · exact absurd h hn
    · exact inB_iff.1 h.2.2
  have e1 : w64 (p : Int) = (p : Int) := w64_in (by omega) (by omega)
  have e2 : w64 (m.Symbols + (p : Int)) = m.Symbols + p := w64_in (by omega) (by omega)
  have e3 : w64 (m.Symbols + r.Next) = m.Symbols + r.Next := w64_in (by omega) (by omega)
  unfold rwOf shape
  rw [hd, hm, e1, e2, e3]
  have hc : ∀ f : Int → GRewrite, w ∈ ((List.range s).flatMap fun (c : Nat) => [f (c : Int)]) ↔ ∃ c : Int, (0 ≤ c ∧ c < m.Symbols) ∧ w = f c := by
    intro f
    rw [List.mem_flatMap]
    constructor
    · rintro ⟨c, hc, hw⟩
      have hc := List.mem_range.1 hc
      exact ⟨(c : Int), by omega, List.mem_singleton.1 hw⟩
    · rintro ⟨c, hc, rfl⟩
      refine ⟨c.toNat, List.mem_range.2 (by omega), ?_⟩
      rw [List.mem_singleton]
      congr 1
      omega
  by_cases h1 : r.Move = 1
  · rw [decide_eq_true h1, cond_true]
    by_cases h0 : (a : Int) = 0
    · rw [decide_eq_true h0, cond_true]
      have h0' : a = 0 := by omega
      simp [h1, h0']
    · rw [decide_eq_false h0, cond_false]
      have h0' : ¬ a = 0 := by omega
      simp [h1, h0']
  · rw [decide_eq_false h1, cond_false]
    by_cases h0 : (a : Int) = 0
    · rw [decide_eq_true h0, cond_true, List.mem_append, List.mem_append, List.mem_append, hc (fun c => ⟨[c, m.Symbols + (p : Int), (a : Int)], [m.Symbols + r.Next, c, r.Write]⟩), hc (fun c => ⟨[c, m.Symbols + (p : Int), m.Symbols + m.States], [m.Symbols + r.Next, c, r.Write, m.Symbols + m.States]⟩)]
      simp only [List.mem_singleton, h1, h0, ne_eq, not_false_eq_true, true_and, false_and, false_or, or_assoc]
    · rw [decide_eq_false h0, cond_false, List.append_nil, List.mem_append, hc (fun c => ⟨[c, m.Symbols + (p : Int), (a : Int)], [m.Symbols + r.Next, c, r.Write]⟩)]
      simp only [List.mem_singleton, h1, h0, ne_eq, not_false_eq_true, true_and, false_and, false_or, or_false]
theorem split_at {s q i : Nat} (h : i < q * s) (hs : 0 < s) : ∃ p a, p < q ∧ a < s ∧ i = p * s + a := by
  refine ⟨i / s, i % s, ?_, Nat.mod_lt _ hs, ?_⟩
  · rw [Nat.div_lt_iff_lt_mul hs]
    exact h
  · rw [Nat.mul_comm]
    exact (Nat.div_add_mod i s).symm
theorem ownL_mem {m : GMachine} {s q : Nat} (T : Tiny m s q) (w : GRewrite) : w ∈ ownL m s ↔ ∃ p a : Nat, p < q ∧ a < s ∧ m.Rules.getD (p * s + a) noR ≠ noR ∧ shape m (p : Int) (a : Int) (m.Rules.getD (p * s + a) noR) w := by
  have b1 := T.b1
  have hg : ∀ {i : Nat}, i < q * s → m.Rules.getD i noR ∈ m.Rules := fun {i} hi => by
    rw [List.getD_eq_getElem?_getD, List.getElem?_eq_getElem (by rw [T.hl]; exact hi)]
    exact List.getElem_mem _
  unfold ownL
  rw [List.mem_flatMap]
  constructor
  · rintro ⟨i, hi, hw⟩
    have hi := List.mem_range.1 hi
    rw [T.hl] at hi
    obtain ⟨p, a, hp, ha, rfl⟩ := split_at hi (by omega)
    unfold ownRw at hw
    by_cases hn : m.Rules.getD (p * s + a) noR = noR
    · rw [decide_eq_true hn, cond_true] at hw
      simp at hw
    · rw [decide_eq_false hn, cond_false] at hw
      exact ⟨p, a, hp, ha, hn, (rwOf_mem T hp ha (hg hi) hn w).1 hw⟩
  · rintro ⟨p, a, hp, ha, hn, hw⟩
    have hi : p * s + a < q * s := at_lt hp ha
    refine ⟨p * s + a, List.mem_range.2 (by rw [T.hl]; exact hi), ?_⟩
    unfold ownRw
    rw [decide_eq_false hn, cond_false]
    exact (rwOf_mem T hp ha (hg hi) hn w).2 hw
/-- The state's letter stands at one place alone. -/
theorem place1 {m : GMachine} {X : List Int} {p : Int} {Y u v : List Int} {z : Int} (C : Cfw m X p Y) (hz : m.Symbols ≤ z ∧ z < m.Symbols + m.States) (h : Wd m X p Y = u ++ (z :: v)) : u = (m.Symbols + m.States) :: X ∧ z = m.Symbols + p ∧ v = Y ++ [m.Symbols + m.States] := by
  have h' : ((m.Symbols + m.States) :: X) ++ ((m.Symbols + p) :: (Y ++ [m.Symbols + m.States])) = u ++ (z :: v) := h
  have hl : u.length = ((m.Symbols + m.States) :: X).length := by
    rcases Nat.lt_trichotomy u.length ((m.Symbols + m.States) :: X).length with h1 | h1 | h1
    · exfalso
      have g : (((m.Symbols + m.States) :: X) ++ ((m.Symbols + p) :: (Y ++ [m.Symbols + m.States])))[u.length]? = (u ++ (z :: v))[u.length]? := by rw [h']
      rw [List.getElem?_append_left h1, List.getElem?_append_right (Nat.le_refl _), Nat.sub_self, List.getElem?_cons_zero] at g
      have hm := List.mem_of_getElem? g
      rcases List.mem_cons.1 hm with rfl | hm
      · omega
      · have := C.sx z hm
        omega
    · exact h1
    · exfalso
      have g : (((m.Symbols + m.States) :: X) ++ ((m.Symbols + p) :: (Y ++ [m.Symbols + m.States])))[u.length]? = (u ++ (z :: v))[u.length]? := by rw [h']
      rw [List.getElem?_append_right (by omega), List.getElem?_append_right (Nat.le_refl _), Nat.sub_self, List.getElem?_cons_zero] at g
      obtain ⟨n, hn⟩ : ∃ n, u.length - ((m.Symbols + m.States) :: X).length = n + 1 := ⟨u.length - ((m.Symbols + m.States) :: X).length - 1, by omega⟩
      rw [hn, List.getElem?_cons_succ] at g
      have hm := List.mem_of_getElem? g
      rcases List.mem_append.1 hm with hm | hm
      · have := C.sy z hm
        omega
      · rw [List.mem_singleton] at hm
        omega
  obtain ⟨e1, e2⟩ := List.append_inj h' hl.symm
  simp only [List.cons.injEq] at e2
  exact ⟨e1.symm, e2.1.symm, e2.2.symm⟩
theorem after1 {m : GMachine} {Y suf : List Int} {a : Int} (hy : sym m Y) (ha : 0 ≤ a ∧ a < m.Symbols) (hq : 1 ≤ m.States) (h : a :: suf = Y ++ [m.Symbols + m.States]) : Y = a :: Y.tail ∧ suf = Y.tail ++ [m.Symbols + m.States] := by
  cases Y with
  | nil =>
    simp at h
    omega
  | cons y Y =>
    simp only [List.cons_append, List.cons.injEq] at h
    exact ⟨by rw [h.1]; rfl, h.2⟩
theorem after2 {m : GMachine} {Y suf : List Int} (hy : sym m Y) (hq : 1 ≤ m.States) (h : (m.Symbols + m.States) :: suf = Y ++ [m.Symbols + m.States]) : Y = [] ∧ suf = [] := by
  cases Y with
  | nil =>
    simp at h
    exact ⟨rfl, h⟩
  | cons y Y =>
    simp only [List.cons_append, List.cons.injEq] at h
    have := hy y (List.mem_cons_self ..)
    omega
theorem before1 {m : GMachine} {X pre : List Int} {c : Int} (hc : 0 ≤ c ∧ c < m.Symbols) (hq : 1 ≤ m.States) (h : pre ++ [c] = (m.Symbols + m.States) :: X) : pre = (m.Symbols + m.States) :: X.dropLast ∧ X = X.dropLast ++ [c] ∧ X.getLastD 0 = c := by
  rcases snoc_cases X with rfl | ⟨X', x, rfl⟩
  · cases pre with
    | nil => simp at h; omega
    | cons y l => simp at h
  · rw [← List.cons_append] at h
    obtain ⟨e1, e2⟩ := List.append_inj' h rfl
    simp only [List.cons.injEq, and_true] at e2
    subst e2
    exact ⟨by rw [e1]; simp, by simp, by simp⟩
theorem before2 {m : GMachine} {X pre : List Int} (hx : sym m X) (hq : 1 ≤ m.States) (h : pre ++ [m.Symbols + m.States] = (m.Symbols + m.States) :: X) : pre = [] ∧ X = [] := by
  rcases snoc_cases X with rfl | ⟨X', x, rfl⟩
  · cases pre with
    | nil => exact ⟨rfl, rfl⟩
    | cons y l => simp at h
  · rw [← List.cons_append] at h
    obtain ⟨e1, e2⟩ := List.append_inj' h rfl
    simp only [List.cons.injEq, and_true] at e2
    have := hx x (by simp)
    omega
/-- A rule that occurs in a configuration's word is that of its state and symbol; its result is the next one's word. -/
theorem occ {m : GMachine} {s q : Nat} (T : Tiny m s q) {X : List Int} {p : Int} {Y : List Int} (C : Cfw m X p Y) {w : GRewrite} (hw : w ∈ ownL m s) {pre suf : List Int} (h : Wd m X p Y = pre ++ (w.From ++ suf)) :
    rl m p Y ≠ noR ∧ pre ++ (w.To ++ suf) = Wd m (nxX (rl m p Y) X) (rl m p Y).Next (nxY (rl m p Y) X Y) ∧
      ∃ off, off ≤ 1 ∧ pre.length + off = X.length + 1 ∧ (w.From.findIdx? fun x => decide (m.Symbols ≤ x) && decide (x < m.Symbols + m.States)) = some off := by
  have hs := T.hs
  have hq := T.hq
  have b2 := T.b2
  obtain ⟨p', a, hp, ha, hn, hsh⟩ := (ownL_mem T w).1 hw
  have st : m.Symbols ≤ m.Symbols + (p' : Int) ∧ m.Symbols + (p' : Int) < m.Symbols + m.States := by omega
  have key : p = (p' : Int) → Y.headD 0 = (a : Int) → rl m p Y = m.Rules.getD (p' * s + a) noR := by
    intro h1 h2
    unfold rl
    rw [h1, h2, hs]
    congr 1
  have f0 : ∀ l : List Int, ((m.Symbols + (p' : Int)) :: l).findIdx? (fun x => decide (m.Symbols ≤ x) && decide (x < m.Symbols + m.States)) = some 0 := by
    intro l
    rw [List.findIdx?_cons, decide_eq_true st.1, decide_eq_true st.2]
    rfl
  have f1 : ∀ (c : Int) (l : List Int), (c < m.Symbols ∨ m.Symbols + m.States ≤ c) → (c :: (m.Symbols + (p' : Int)) :: l).findIdx? (fun x => decide (m.Symbols ≤ x) && decide (x < m.Symbols + m.States)) = some 1 := by
    intro c l hc
    rw [List.findIdx?_cons, f0]
    have : (decide (m.Symbols ≤ c) && decide (c < m.Symbols + m.States)) = false := by
      rcases hc with hc | hc
      · rw [decide_eq_false (by omega), Bool.false_and]
      · rw [decide_eq_false (by omega : ¬ c < m.Symbols + m.States), Bool.and_false]
    rw [this]
    rfl
  rcases hsh with ⟨hm, rfl | ⟨h0, rfl⟩⟩ | ⟨hm, ⟨c, hc, rfl⟩ | rfl | ⟨h0, ⟨c, hc, rfl⟩ | rfl⟩⟩
  · obtain ⟨e1, e2, e3⟩ := place1 C st (u := pre) (v := (a : Int) :: suf) h
    obtain ⟨e4, e5⟩ := after1 C.sy (by omega) (by omega) e3
    have hr := key (by omega) (by rw [e4]; rfl)
    rw [hr]
    refine ⟨hn, ?_, 0, by omega, by rw [e1, List.length_cons], f0 _⟩
    unfold nxX nxY
    rw [if_pos hm, if_pos hm, e1, e5]
    unfold Wd
    simp
  · obtain ⟨e1, e2, e3⟩ := place1 C st (u := pre) (v := (m.Symbols + m.States) :: suf) h
    obtain ⟨e4, e5⟩ := after2 C.sy (by omega) e3
    have hr := key (by omega) (by rw [e4, h0]; rfl)
    rw [hr]
    refine ⟨hn, ?_, 0, by omega, by rw [e1, List.length_cons], f0 _⟩
    unfold nxX nxY
    rw [if_pos hm, if_pos hm, e1, e5, e4]
    unfold Wd
    simp
  · have h' : Wd m X p Y = (pre ++ [c]) ++ ((m.Symbols + (p' : Int)) :: ((a : Int) :: suf)) := by rw [h]; simp
    obtain ⟨e1, e2, e3⟩ := place1 C st h'
    obtain ⟨e4, e5⟩ := after1 C.sy (by omega) (by omega) e3
    obtain ⟨e6, e7, e8⟩ := before1 hc (by omega) e1
    have hr := key (by omega) (by rw [e4]; rfl)
    rw [hr]
    refine ⟨hn, ?_, 1, by omega, ?_, f1 _ _ (by omega)⟩
    · unfold nxX nxY
      rw [if_neg hm, if_neg hm, e6, e5, e8]
      unfold Wd
      simp
    · have := congrArg List.length e1
      simp only [List.length_append, List.length_cons, List.length_nil] at this
      omega
  · have h' : Wd m X p Y = (pre ++ [m.Symbols + m.States]) ++ ((m.Symbols + (p' : Int)) :: ((a : Int) :: suf)) := by rw [h]; simp
    obtain ⟨e1, e2, e3⟩ := place1 C st h'
    obtain ⟨e4, e5⟩ := after1 C.sy (by omega) (by omega) e3
    obtain ⟨e6, e7⟩ := before2 C.sx (by omega) e1
    have hr := key (by omega) (by rw [e4]; rfl)
    rw [hr]
    refine ⟨hn, ?_, 1, by omega, ?_, f1 _ _ (by omega)⟩
    · unfold nxX nxY
      rw [if_neg hm, if_neg hm, e6, e5, e7]
      unfold Wd
      simp
    · rw [e6, e7]
  · have h' : Wd m X p Y = (pre ++ [c]) ++ ((m.Symbols + (p' : Int)) :: ((m.Symbols + m.States) :: suf)) := by rw [h]; simp
    obtain ⟨e1, e2, e3⟩ := place1 C st h'
    obtain ⟨e4, e5⟩ := after2 C.sy (by omega) e3
    obtain ⟨e6, e7, e8⟩ := before1 hc (by omega) e1
    have hr := key (by omega) (by rw [e4, h0]; rfl)
    rw [hr]
    refine ⟨hn, ?_, 1, by omega, ?_, f1 _ _ (by omega)⟩
    · unfold nxX nxY
      rw [if_neg hm, if_neg hm, e6, e5, e8, e4]
      unfold Wd
      simp
    · have := congrArg List.length e1
      simp only [List.length_append, List.length_cons, List.length_nil] at this
      omega
  · have h' : Wd m X p Y = (pre ++ [m.Symbols + m.States]) ++ ((m.Symbols + (p' : Int)) :: ((m.Symbols + m.States) :: suf)) := by rw [h]; simp
    obtain ⟨e1, e2, e3⟩ := place1 C st h'
    obtain ⟨e4, e5⟩ := after2 C.sy (by omega) e3
    obtain ⟨e6, e7⟩ := before2 C.sx (by omega) e1
    have hr := key (by omega) (by rw [e4, h0]; rfl)
    rw [hr]
    refine ⟨hn, ?_, 1, by omega, ?_, f1 _ _ (by omega)⟩
    · unfold nxX nxY
      rw [if_neg hm, if_neg hm, e6, e5, e7, e4]
      unfold Wd
      simp
    · rw [e6, e7]
/-- If the machine has a rule there, one of its rules occurs. -/
theorem occ_ex {m : GMachine} {s q : Nat} (T : Tiny m s q) {X : List Int} {p : Int} {Y : List Int} (C : Cfw m X p Y) (hn : rl m p Y ≠ noR) : ∃ w ∈ ownL m s, ∃ pre suf, Wd m X p Y = pre ++ (w.From ++ suf) := by
  have hs := T.hs
  have hq := T.hq
  have b1 := T.b1
  have hp0 := C.p0
  have hp1 := C.p1
  obtain ⟨p', rfl⟩ : ∃ p' : Nat, p = (p' : Int) := ⟨p.toNat, by omega⟩
  have hy : 0 ≤ Y.headD 0 ∧ Y.headD 0 < m.Symbols := by
    cases Y with
    | nil => show (0 : Int) ≤ 0 ∧ (0 : Int) < m.Symbols; omega
    | cons y Y => exact C.sy y (List.mem_cons_self ..)
  obtain ⟨a, hya⟩ : ∃ a : Nat, Y.headD 0 = (a : Int) := ⟨(Y.headD 0).toNat, by omega⟩
  have hr : rl m (p' : Int) Y = m.Rules.getD (p' * s + a) noR := by
    unfold rl
    rw [hya, hs]
    congr 1
  rw [hr] at hn
  have hin : ∀ w, shape m (p' : Int) (a : Int) (m.Rules.getD (p' * s + a) noR) w → w ∈ ownL m s := fun w hw => (ownL_mem T w).2 ⟨p', a, by omega, by omega, hn, hw⟩
  by_cases hm : (m.Rules.getD (p' * s + a) noR).Move = 1
  · cases Y with
    | nil =>
      have h0 : (a : Int) = 0 := hya.symm
      exact ⟨_, hin _ (.inl ⟨hm, .inr ⟨h0, rfl⟩⟩), (m.Symbols + m.States) :: X, [], by unfold Wd; simp⟩
    | cons y Y =>
      have h0 : y = (a : Int) := hya
      exact ⟨_, hin _ (.inl ⟨hm, .inl rfl⟩), (m.Symbols + m.States) :: X, Y ++ [m.Symbols + m.States], by unfold Wd; rw [h0]; simp⟩
  · rcases snoc_cases X with rfl | ⟨X', x, rfl⟩
    · cases Y with
      | nil =>
        have h0 : (a : Int) = 0 := hya.symm
        exact ⟨_, hin _ (.inr ⟨hm, .inr (.inr ⟨h0, .inr rfl⟩)⟩), [], [], by unfold Wd; simp⟩
      | cons y Y =>
        have h0 : y = (a : Int) := hya
        exact ⟨_, hin _ (.inr ⟨hm, .inr (.inl rfl)⟩), [], Y ++ [m.Symbols + m.States], by unfold Wd; rw [h0]; simp⟩
    · have hx := C.sx x (by simp)
      cases Y with
      | nil =>
        have h0 : (a : Int) = 0 := hya.symm
        exact ⟨_, hin _ (.inr ⟨hm, .inr (.inr ⟨h0, .inl ⟨x, hx, rfl⟩⟩)⟩), (m.Symbols + m.States) :: X', [], by unfold Wd; simp⟩
      | cons y Y =>
        have h0 : y = (a : Int) := hya
        exact ⟨_, hin _ (.inr ⟨hm, .inl ⟨x, hx, rfl⟩⟩), (m.Symbols + m.States) :: X', Y ++ [m.Symbols + m.States], by unfold Wd; rw [h0]; simp⟩
end Go.Fn
