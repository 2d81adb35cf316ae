/-
  Plain laws, part 2. No program in sight. No condition.
-/
import Derived.Test.YtlepdmenejbleaaGreatPM1
import Derived.Test.YtlepdmenejbleaaGreatFn
import Derived.Test.YtlepdmenejbleaaGreatPure
import Derived.Test.YtlepdmenejbleaaGreatWf
import Derived.Test.YtlepdmenejbleaaGreatLaw
namespace Go.Fn
open Go Go.Tc
structure Tiny (m : GMachine) (s q : Nat) : Prop where
 hs : m.Symbols = s
 hq : m.States = q
 b1 : 2 ≤ s
 b2 : 1 ≤ q
 b3 : s + q ≤ 4
 hl : m.Rules.length = q * s
 hr : ∀ r ∈ m.Rules, ruleB m.Symbols m.States r = true
def Wd (m : GMachine) (X : List Int) (p : Int) (Y : List Int) : List Int := (m.Symbols + m.States) :: (X ++ ((m.Symbols + p) :: (Y ++ [m.Symbols + m.States])))
theorem Wd_len (m : GMachine) (X : List Int) (p : Int) (Y : List Int) : (Wd m X p Y).length = X.length + Y.length + 3 := by
 unfold Wd
 simp only [List.length_cons, List.length_append, List.length_nil]
 omega
def sym (m : GMachine) (X : List Int) : Prop := ∀ x ∈ X, 0 ≤ x ∧ x < m.Symbols
structure Cfw (m : GMachine) (X : List Int) (p : Int) (Y : List Int) : Prop where
 sx : sym m X
 sy : sym m Y
 p0 : 0 ≤ p
 p1 : p < m.States
def rl (m : GMachine) (p : Int) (Y : List Int) : GRule := m.Rules.getD (p * m.Symbols + Y.headD 0).toNat noR
def nxX (r : GRule) (X : List Int) : List Int := if r.Move = 1 then X ++ [r.Write] else X.dropLast
def nxY (r : GRule) (X Y : List Int) : List Int := if r.Move = 1 then Y.tail else X.getLastD 0 :: r.Write :: Y.tail
def shape (m : GMachine) (p a : Int) (r : GRule) (w : GRewrite) : Prop :=
 (r.Move = 1 ∧ (w = ⟨[m.Symbols + p, a], [r.Write, m.Symbols + r.Next]⟩ ∨ (a = 0 ∧ w = ⟨[m.Symbols + p, m.Symbols + m.States], [r.Write, m.Symbols + r.Next, m.Symbols + m.States]⟩))) ∨
 (r.Move ≠ 1 ∧ ((∃ c : Int, (0 ≤ c ∧ c < m.Symbols) ∧ w = ⟨[c, m.Symbols + p, a], [m.Symbols + r.Next, c, r.Write]⟩) ∨ w = ⟨[m.Symbols + m.States, m.Symbols + p, a], [m.Symbols + m.States, m.Symbols + r.Next, 0, r.Write]⟩ ∨
  (a = 0 ∧ ((∃ c : Int, (0 ≤ c ∧ c < m.Symbols) ∧ w = ⟨[c, m.Symbols + p, m.Symbols + m.States], [m.Symbols + r.Next, c, r.Write, m.Symbols + m.States]⟩) ∨ w = ⟨[m.Symbols + m.States, m.Symbols + p, m.Symbols + m.States], [m.Symbols + m.States, m.Symbols + r.Next, 0, r.Write, m.Symbols + m.States]⟩))))
theorem rwOf_mem {m : GMachine} {s q : Nat} (T : Tiny m s q) {p a : Nat} (hp : p < q) (ha : a < s) {r : GRule} (hr : r ∈ m.Rules) (hn : r ≠ noR) (w : GRewrite) : w ∈ rwOf s m.Symbols (m.Symbols + m.States) ((p * s + a : Nat) : Int) r ↔ shape m (p : Int) (a : Int) r w := by
 have hs := T.hs
 have hq := T.hq
 have b3 := T.b3
 have hd : Int.tdiv ((p * s + a : Nat) : Int) m.Symbols = (p : Int) := by
  rw [hs, Int.tdiv_eq_ediv_of_nonneg (by omega)]
  have : (p * s + a) / s = p := by rw [Nat.mul_comm, Nat.mul_add_div (by omega), Nat.div_eq_of_lt ha, Nat.add_zero]
  omega
 have hm : Int.tmod ((p * s + a : Nat) : Int) m.Symbols = (a : Int) := by
  rw [hs, Int.tmod_eq_emod_of_nonneg (by omega)]
  have : (p * s + a) % s = a := by rw [Nat.mul_comm, Nat.mul_add_mod, Nat.mod_eq_of_lt ha]
  omega
 have hnx : 0 ≤ r.Next ∧ r.Next ≤ m.States - 1 := by
  have h := T.hr r hr
  unfold ruleB at h
  simp only [Bool.or_eq_true, Bool.and_eq_true, decide_eq_true_eq] at h
  rcases h with h | h
  ·exact absurd h hn
  ·exact inB_iff.1 h.2.2
 have e1 : w64 (p : Int) = (p : Int) := w64_in (by omega) (by omega)
 have e2 : w64 (m.Symbols + (p : Int)) = m.Symbols + p := w64_in (by omega) (by omega)
 have e3 : w64 (m.Symbols + r.Next) = m.Symbols + r.Next := w64_in (by omega) (by omega)
 unfold rwOf shape
 rw [hd, hm, e1, e2, e3]
 have hc : ∀ f : Int → GRewrite, w ∈ ((List.range s).flatMap fun (c : Nat) => [f (c : Int)]) ↔ ∃ c : Int, (0 ≤ c ∧ c < m.Symbols) ∧ w = f c := by
  intro f
  rw [List.mem_flatMap]
  constructor
  ·rintro ⟨c, hc, hw⟩
   have hc := List.mem_range.1 hc
   exact ⟨(c : Int), by omega, List.mem_singleton.1 hw⟩
  ·rintro ⟨c, hc, rfl⟩
   refine ⟨c.toNat, List.mem_range.2 (by omega), ?_⟩
   rw [List.mem_singleton]
   congr 1
   omega
 by_cases h1 : r.Move = 1
 ·rw [decide_eq_true h1, cond_true]
  by_cases h0 : (a : Int) = 0
  ·rw [decide_eq_true h0, cond_true]
   have h0' : a = 0 := by omega
   simp [h1, h0']
  ·rw [decide_eq_false h0, cond_false]
   have h0' : ¬ a = 0 := by omega
   simp [h1, h0']
 ·rw [decide_eq_false h1, cond_false]
  by_cases h0 : (a : Int) = 0
  ·rw [decide_eq_true h0, cond_true, List.mem_append, List.mem_append, List.mem_append, hc (fun c => ⟨[c, m.Symbols + (p : Int), (a : Int)], [m.Symbols + r.Next, c, r.Write]⟩), hc (fun c => ⟨[c, m.Symbols + (p : Int), m.Symbols + m.States], [m.Symbols + r.Next, c, r.Write, m.Symbols + m.States]⟩)]
   simp only [List.mem_singleton, h1, h0, ne_eq, not_false_eq_true, true_and, false_and, false_or, or_assoc]
  ·rw [decide_eq_false h0, cond_false, List.append_nil, List.mem_append, hc (fun c => ⟨[c, m.Symbols + (p : Int), (a : Int)], [m.Symbols + r.Next, c, r.Write]⟩)]
   simp only [List.mem_singleton, h1, h0, ne_eq, not_false_eq_true, true_and, false_and, false_or, or_false]
theorem split_at {s q i : Nat} (h : i < q * s) (hs : 0 < s) : ∃ p a, p < q ∧ a < s ∧ i = p * s + a := by
 refine ⟨i / s, i % s, ?_, Nat.mod_lt _ hs, ?_⟩
 ·rw [Nat.div_lt_iff_lt_mul hs]
  exact h
 ·rw [Nat.mul_comm]
  exact (Nat.div_add_mod i s).symm
theorem ownL_mem {m : GMachine} {s q : Nat} (T : Tiny m s q) (w : GRewrite) : w ∈ ownL m s ↔ ∃ p a : Nat, p < q ∧ a < s ∧ m.Rules.getD (p * s + a) noR ≠ noR ∧ shape m (p : Int) (a : Int) (m.Rules.getD (p * s + a) noR) w := by
 have b1 := T.b1
 have hg : ∀ {i : Nat}, i < q * s → m.Rules.getD i noR ∈ m.Rules := fun {i} hi => by
  rw [List.getD_eq_getElem?_getD, List.getElem?_eq_getElem (by rw [T.hl]; exact hi)]
  exact List.getElem_mem _
 unfold ownL
 rw [List.mem_flatMap]
 constructor
 ·rintro ⟨i, hi, hw⟩
  have hi := List.mem_range.1 hi
  rw [T.hl] at hi
  obtain ⟨p, a, hp, ha, rfl⟩ := split_at hi (by omega)
  unfold ownRw at hw
  by_cases hn : m.Rules.getD (p * s + a) noR = noR
  ·rw [decide_eq_true hn, cond_true] at hw
   simp at hw
  ·rw [decide_eq_false hn, cond_false] at hw
   exact ⟨p, a, hp, ha, hn, (rwOf_mem T hp ha (hg hi) hn w).1 hw⟩
 ·rintro ⟨p, a, hp, ha, hn, hw⟩
  have hi : p * s + a < q * s := at_lt hp ha
  refine ⟨p * s + a, List.mem_range.2 (by rw [T.hl]; exact hi), ?_⟩
  unfold ownRw
  rw [decide_eq_false hn, cond_false]
  exact (rwOf_mem T hp ha (hg hi) hn w).2 hw
theorem place1 {m : GMachine} {X : List Int} {p : Int} {Y u v : List Int} {z : Int} (C : Cfw m X p Y) (hz : m.Symbols ≤ z ∧ z < m.Symbols + m.States) (h : Wd m X p Y = u ++ (z :: v)) : u = (m.Symbols + m.States) :: X ∧ z = m.Symbols + p ∧ v = Y ++ [m.Symbols + m.States] := by
 have h' : ((m.Symbols + m.States) :: X) ++ ((m.Symbols + p) :: (Y ++ [m.Symbols + m.States])) = u ++ (z :: v) := h
 have hl : u.length = ((m.Symbols + m.States) :: X).length := by
  rcases Nat.lt_trichotomy u.length ((m.Symbols + m.States) :: X).length with h1 | h1 | h1
  ·exfalso
   have g : (((m.Symbols + m.States) :: X) ++ ((m.Symbols + p) :: (Y ++ [m.Symbols + m.States])))[u.length]? = (u ++ (z :: v))[u.length]? := by rw [h']
   rw [List.getElem?_append_left h1, List.getElem?_append_right (Nat.le_refl _), Nat.sub_self, List.getElem?_cons_zero] at g
   have hm := List.mem_of_getElem? g
   rcases List.mem_cons.1 hm with rfl | hm
   ·omega
   ·have := C.sx z hm
    omega
  ·exact h1
  ·exfalso
   have g : (((m.Symbols + m.States) :: X) ++ ((m.Symbols + p) :: (Y ++ [m.Symbols + m.States])))[u.length]? = (u ++ (z :: v))[u.length]? := by rw [h']
   rw [List.getElem?_append_right (by omega), List.getElem?_append_right (Nat.le_refl _), Nat.sub_self, List.getElem?_cons_zero] at g
   obtain ⟨n, hn⟩ : ∃ n, u.length - ((m.Symbols + m.States) :: X).length = n + 1 := ⟨u.length - ((m.Symbols + m.States) :: X).length - 1, by omega⟩
   rw [hn, List.getElem?_cons_succ] at g
   have hm := List.mem_of_getElem? g
   rcases List.mem_append.1 hm with hm | hm
   ·have := C.sy z hm
    omega
   ·rw [List.mem_singleton] at hm
    omega
 obtain ⟨e1, e2⟩ := List.append_inj h' hl.symm
 simp only [List.cons.injEq] at e2
 exact ⟨e1.symm, e2.1.symm, e2.2.symm⟩
theorem after1 {m : GMachine} {Y suf : List Int} {a : Int} (hy : sym m Y) (ha : 0 ≤ a ∧ a < m.Symbols) (hq : 1 ≤ m.States) (h : a :: suf = Y ++ [m.Symbols + m.States]) : Y = a :: Y.tail ∧ suf = Y.tail ++ [m.Symbols + m.States] := by
 cases Y with
 | nil =>
  simp at h
  omega
 | cons y Y =>
  simp only [List.cons_append, List.cons.injEq] at h
  exact ⟨by rw [h.1]; rfl, h.2⟩
theorem after2 {m : GMachine} {Y suf : List Int} (hy : sym m Y) (hq : 1 ≤ m.States) (h : (m.Symbols + m.States) :: suf = Y ++ [m.Symbols + m.States]) : Y = [] ∧ suf = [] := by
 cases Y with
 | nil =>
  simp at h
  exact ⟨rfl, h⟩
 | cons y Y =>
  simp only [List.cons_append, List.cons.injEq] at h
  have := hy y (List.mem_cons_self ..)
  omega
theorem before1 {m : GMachine} {X pre : List Int} {c : Int} (hc : 0 ≤ c ∧ c < m.Symbols) (hq : 1 ≤ m.States) (h : pre ++ [c] = (m.Symbols + m.States) :: X) : pre = (m.Symbols + m.States) :: X.dropLast ∧ X = X.dropLast ++ [c] ∧ X.getLastD 0 = c := by
 rcases snoc_cases X with rfl | ⟨X', x, rfl⟩
 ·cases pre with
  | nil => simp at h; omega
  | cons y l => simp at h
 ·rw [← List.cons_append] at h
  obtain ⟨e1, e2⟩ := List.append_inj' h rfl
  simp only [List.cons.injEq, and_true] at e2
  subst e2
  exact ⟨by rw [e1]; simp, by simp, by simp⟩
theorem before2 {m : GMachine} {X pre : List Int} (hx : sym m X) (hq : 1 ≤ m.States) (h : pre ++ [m.Symbols + m.States] = (m.Symbols + m.States) :: X) : pre = [] ∧ X = [] := by
 rcases snoc_cases X with rfl | ⟨X', x, rfl⟩
 ·cases pre with
  | nil => exact ⟨rfl, rfl⟩
  | cons y l => simp at h
 ·rw [← List.cons_append] at h
  obtain ⟨e1, e2⟩ := List.append_inj' h rfl
  simp only [List.cons.injEq, and_true] at e2
  have := hx x (by simp)
  omega
theorem occ {m : GMachine} {s q : Nat} (T : Tiny m s q) {X : List Int} {p : Int} {Y : List Int} (C : Cfw m X p Y) {w : GRewrite} (hw : w ∈ ownL m s) {pre suf : List Int} (h : Wd m X p Y = pre ++ (w.From ++ suf)) :
  rl m p Y ≠ noR ∧ pre ++ (w.To ++ suf) = Wd m (nxX (rl m p Y) X) (rl m p Y).Next (nxY (rl m p Y) X Y) ∧
   ∃ off, off ≤ 1 ∧ pre.length + off = X.length + 1 ∧ (w.From.findIdx? fun x => decide (m.Symbols ≤ x) && decide (x < m.Symbols + m.States)) = some off := by
 have hs := T.hs
 have hq := T.hq
 have b2 := T.b2
 obtain ⟨p', a, hp, ha, hn, hsh⟩ := (ownL_mem T w).1 hw
 have st : m.Symbols ≤ m.Symbols + (p' : Int) ∧ m.Symbols + (p' : Int) < m.Symbols + m.States := by omega
 have key : p = (p' : Int) → Y.headD 0 = (a : Int) → rl m p Y = m.Rules.getD (p' * s + a) noR := by
  intro h1 h2
  unfold rl
  rw [h1, h2, hs]
  congr 1
 have f0 : ∀ l : List Int, ((m.Symbols + (p' : Int)) :: l).findIdx? (fun x => decide (m.Symbols ≤ x) && decide (x < m.Symbols + m.States)) = some 0 := by
  intro l
  rw [List.findIdx?_cons, decide_eq_true st.1, decide_eq_true st.2]
  rfl
 have f1 : ∀ (c : Int) (l : List Int), (c < m.Symbols ∨ m.Symbols + m.States ≤ c) → (c :: (m.Symbols + (p' : Int)) :: l).findIdx? (fun x => decide (m.Symbols ≤ x) && decide (x < m.Symbols + m.States)) = some 1 := by
  intro c l hc
  rw [List.findIdx?_cons, f0]
  have : (decide (m.Symbols ≤ c) && decide (c < m.Symbols + m.States)) = false := by
   rcases hc with hc | hc
   ·rw [decide_eq_false (by omega), Bool.false_and]
   ·rw [decide_eq_false (by omega : ¬ c < m.Symbols + m.States), Bool.and_false]
  rw [this]
  rfl
 rcases hsh with ⟨hm, rfl | ⟨h0, rfl⟩⟩ | ⟨hm, ⟨c, hc, rfl⟩ | rfl | ⟨h0, ⟨c, hc, rfl⟩ | rfl⟩⟩
 ·obtain ⟨e1, e2, e3⟩ := place1 C st (u := pre) (v := (a : Int) :: suf) h
  obtain ⟨e4, e5⟩ := after1 C.sy (by omega) (by omega) e3
  have hr := key (by omega) (by rw [e4]; rfl)
  rw [hr]
  refine ⟨hn, ?_, 0, by omega, by rw [e1, List.length_cons], f0 _⟩
  unfold nxX nxY
  rw [if_pos hm, if_pos hm, e1, e5]
  unfold Wd
  simp
 ·obtain ⟨e1, e2, e3⟩ := place1 C st (u := pre) (v := (m.Symbols + m.States) :: suf) h
  obtain ⟨e4, e5⟩ := after2 C.sy (by omega) e3
  have hr := key (by omega) (by rw [e4, h0]; rfl)
  rw [hr]
  refine ⟨hn, ?_, 0, by omega, by rw [e1, List.length_cons], f0 _⟩
  unfold nxX nxY
  rw [if_pos hm, if_pos hm, e1, e5, e4]
  unfold Wd
  simp
 ·have h' : Wd m X p Y = (pre ++ [c]) ++ ((m.Symbols + (p' : Int)) :: ((a : Int) :: suf)) := by rw [h]; simp
  obtain ⟨e1, e2, e3⟩ := place1 C st h'
  obtain ⟨e4, e5⟩ := after1 C.sy (by omega) (by omega) e3
  obtain ⟨e6, e7, e8⟩ := before1 hc (by omega) e1
  have hr := key (by omega) (by rw [e4]; rfl)
  rw [hr]
  refine ⟨hn, ?_, 1, by omega, ?_, f1 _ _ (by omega)⟩
  ·unfold nxX nxY
   rw [if_neg hm, if_neg hm, e6, e5, e8]
   unfold Wd
   simp
  ·have := congrArg List.length e1
   simp only [List.length_append, List.length_cons, List.length_nil] at this
   omega
 ·have h' : Wd m X p Y = (pre ++ [m.Symbols + m.States]) ++ ((m.Symbols + (p' : Int)) :: ((a : Int) :: suf)) := by rw [h]; simp
  obtain ⟨e1, e2, e3⟩ := place1 C st h'
  obtain ⟨e4, e5⟩ := after1 C.sy (by omega) (by omega) e3
  obtain ⟨e6, e7⟩ := before2 C.sx (by omega) e1
  have hr := key (by omega) (by rw [e4]; rfl)
  rw [hr]
  refine ⟨hn, ?_, 1, by omega, ?_, f1 _ _ (by omega)⟩
  ·unfold nxX nxY
   rw [if_neg hm, if_neg hm, e6, e5, e7]
   unfold Wd
   simp
  ·rw [e6, e7]
 ·have h' : Wd m X p Y = (pre ++ [c]) ++ ((m.Symbols + (p' : Int)) :: ((m.Symbols + m.States) :: suf)) := by rw [h]; simp
  obtain ⟨e1, e2, e3⟩ := place1 C st h'
  obtain ⟨e4, e5⟩ := after2 C.sy (by omega) e3
  obtain ⟨e6, e7, e8⟩ := before1 hc (by omega) e1
  have hr := key (by omega) (by rw [e4, h0]; rfl)
  rw [hr]
  refine ⟨hn, ?_, 1, by omega, ?_, f1 _ _ (by omega)⟩
  ·unfold nxX nxY
   rw [if_neg hm, if_neg hm, e6, e5, e8, e4]
   unfold Wd
   simp
  ·have := congrArg List.length e1
   simp only [List.length_append, List.length_cons, List.length_nil] at this
   omega
 ·have h' : Wd m X p Y = (pre ++ [m.Symbols + m.States]) ++ ((m.Symbols + (p' : Int)) :: ((m.Symbols + m.States) :: suf)) := by rw [h]; simp
  obtain ⟨e1, e2, e3⟩ := place1 C st h'
  obtain ⟨e4, e5⟩ := after2 C.sy (by omega) e3
  obtain ⟨e6, e7⟩ := before2 C.sx (by omega) e1
  have hr := key (by omega) (by rw [e4, h0]; rfl)
  rw [hr]
  refine ⟨hn, ?_, 1, by omega, ?_, f1 _ _ (by omega)⟩
  ·unfold nxX nxY
   rw [if_neg hm, if_neg hm, e6, e5, e7, e4]
   unfold Wd
   simp
  ·rw [e6, e7]
theorem occ_ex {m : GMachine} {s q : Nat} (T : Tiny m s q) {X : List Int} {p : Int} {Y : List Int} (C : Cfw m X p Y) (hn : rl m p Y ≠ noR) : ∃ w ∈ ownL m s, ∃ pre suf, Wd m X p Y = pre ++ (w.From ++ suf) := by
 have hs := T.hs
 have hq := T.hq
 have b1 := T.b1
 have hp0 := C.p0
 have hp1 := C.p1
 obtain ⟨p', rfl⟩ : ∃ p' : Nat, p = (p' : Int) := ⟨p.toNat, by omega⟩
 have hy : 0 ≤ Y.headD 0 ∧ Y.headD 0 < m.Symbols := by
  cases Y with
  | nil => show (0 : Int) ≤ 0 ∧ (0 : Int) < m.Symbols; omega
  | cons y Y => exact C.sy y (List.mem_cons_self ..)
 obtain ⟨a, hya⟩ : ∃ a : Nat, Y.headD 0 = (a : Int) := ⟨(Y.headD 0).toNat, by omega⟩
 have hr : rl m (p' : Int) Y = m.Rules.getD (p' * s + a) noR := by
  unfold rl
  rw [hya, hs]
  congr 1
 rw [hr] at hn
 have hin : ∀ w, shape m (p' : Int) (a : Int) (m.Rules.getD (p' * s + a) noR) w → w ∈ ownL m s := fun w hw => (ownL_mem T w).2 ⟨p', a, by omega, by omega, hn, hw⟩
 by_cases hm : (m.Rules.getD (p' * s + a) noR).Move = 1
 ·cases Y with
  | nil =>
   have h0 : (a : Int) = 0 := hya.symm
   exact ⟨_, hin _ (.inl ⟨hm, .inr ⟨h0, rfl⟩⟩), (m.Symbols + m.States) :: X, [], by unfold Wd; simp⟩
  | cons y Y =>
   have h0 : y = (a : Int) := hya
   exact ⟨_, hin _ (.inl ⟨hm, .inl rfl⟩), (m.Symbols + m.States) :: X, Y ++ [m.Symbols + m.States], by unfold Wd; rw [h0]; simp⟩
 ·rcases snoc_cases X with rfl | ⟨X', x, rfl⟩
  ·cases Y with
   | nil =>
    have h0 : (a : Int) = 0 := hya.symm
    exact ⟨_, hin _ (.inr ⟨hm, .inr (.inr ⟨h0, .inr rfl⟩)⟩), [], [], by unfold Wd; simp⟩
   | cons y Y =>
    have h0 : y = (a : Int) := hya
    exact ⟨_, hin _ (.inr ⟨hm, .inr (.inl rfl)⟩), [], Y ++ [m.Symbols + m.States], by unfold Wd; rw [h0]; simp⟩
  ·have hx := C.sx x (by simp)
   cases Y with
   | nil =>
    have h0 : (a : Int) = 0 := hya.symm
    exact ⟨_, hin _ (.inr ⟨hm, .inr (.inr ⟨h0, .inl ⟨x, hx, rfl⟩⟩)⟩), (m.Symbols + m.States) :: X', [], by unfold Wd; simp⟩
   | cons y Y =>
    have h0 : y = (a : Int) := hya
    exact ⟨_, hin _ (.inr ⟨hm, .inl ⟨x, hx, rfl⟩⟩), (m.Symbols + m.States) :: X', Y ++ [m.Symbols + m.States], by unfold Wd; rw [h0]; simp⟩
end Go.Fn
namespace Go.Fn
open Go Go.Tc
def isS (m : GMachine) (x : Int) : Bool := decide (m.Symbols ≤ x) && decide (x < m.Symbols + m.States)
def offW (m : GMachine) (w : GRewrite) : Nat := (w.From.findIdx? (isS m)).getD 0
def mtc (m : GMachine) (X : List Int) (p : Int) (Y : List Int) (w : GRewrite) : Bool := decide (((Wd m X p Y).drop (X.length + 1 - offW m w)).take w.From.length = w.From)
theorem off_own {m : GMachine} {s q : Nat} (T : Tiny m s q) {w : GRewrite} (hw : w ∈ ownL m s) : offW m w ≤ 1 ∧ w.From.findIdx? (isS m) = some (offW m w) ∧ w.From.length ≤ 3 ∧ w.To.length ≤ 5 := by
 have hs := T.hs
 have hq := T.hq
 have b2 := T.b2
 obtain ⟨p', a, hp, ha, hn, hsh⟩ := (ownL_mem T w).1 hw
 have f0 : ∀ l : List Int, ((m.Symbols + (p' : Int)) :: l).findIdx? (isS m) = some 0 := by
  intro l
  unfold isS
  rw [List.findIdx?_cons, decide_eq_true (by omega), decide_eq_true (by omega)]
  rfl
 have f1 : ∀ (c : Int) (l : List Int), (c < m.Symbols ∨ m.Symbols + m.States ≤ c) → (c :: (m.Symbols + (p' : Int)) :: l).findIdx? (isS m) = some 1 := by
  intro c l hc
  rw [List.findIdx?_cons, f0]
  have : isS m c = false := by
   unfold isS
   rcases hc with hc | hc
   ·rw [decide_eq_false (by omega), Bool.false_and]
   ·rw [decide_eq_false (by omega : ¬ c < m.Symbols + m.States), Bool.and_false]
  rw [this]
  rfl
 unfold offW
 rcases hsh with ⟨hm, rfl | ⟨h0, rfl⟩⟩ | ⟨hm, ⟨c, hc, rfl⟩ | rfl | ⟨h0, ⟨c, hc, rfl⟩ | rfl⟩⟩
 ·simp only [f0]; simp
 ·simp only [f0]; simp
 ·simp only [f1 _ _ (show c < m.Symbols ∨ m.Symbols + m.States ≤ c by omega)]; simp
 ·simp only [f1 _ _ (show m.Symbols + m.States < m.Symbols ∨ m.Symbols + m.States ≤ m.Symbols + m.States by omega)]; simp
 ·simp only [f1 _ _ (show c < m.Symbols ∨ m.Symbols + m.States ≤ c by omega)]; simp
 ·simp only [f1 _ _ (show m.Symbols + m.States < m.Symbols ∨ m.Symbols + m.States ≤ m.Symbols + m.States by omega)]; simp
theorem filter_one {p : Nat → Bool} {a0 : Nat} : ∀ n : Nat, (∀ a, a < n → p a = true → a = a0) → (List.range n).filter p = if a0 < n ∧ p a0 = true then [a0] else []
 | 0, _ => by simp
 | n + 1, h => by
  rw [List.range_succ, List.filter_append, filter_one n (fun a ha => h a (by omega))]
  by_cases hp : p n = true
  ·have e := h n (by omega) hp
   subst e
   rw [if_neg (by omega), if_pos ⟨by omega, hp⟩]
   simp [hp]
  ·have hpf : p n = false := by simpa using hp
   have : (a0 < n ∧ p a0 = true) ↔ (a0 < n + 1 ∧ p a0 = true) := by
    constructor
    ·rintro ⟨h1, h2⟩; exact ⟨by omega, h2⟩
    ·rintro ⟨h1, h2⟩
     refine ⟨?_, h2⟩
     by_cases he : a0 = n
     ·subst he; exact absurd h2 hp
     ·omega
   by_cases hc : a0 < n ∧ p a0 = true
   ·rw [if_pos hc, if_pos (this.1 hc)]
    simp [hpf]
   ·rw [if_neg hc, if_neg (fun e => hc (this.2 e))]
    simp [hpf]
theorem cut3 (u : List Int) (a n : Nat) : u = u.take a ++ ((u.drop a).take n ++ u.drop (a + n)) := by
 conv => lhs; rw [← List.take_append_drop a u]
 congr 1
 conv => lhs; rw [← List.take_append_drop n (u.drop a), List.drop_drop]
section
variable {m : GMachine} {s q : Nat} {X : List Int} {p : Int} {Y : List Int}
def Wn (m : GMachine) (X : List Int) (p : Int) (Y : List Int) : List Int := Wd m (nxX (rl m p Y) X) (rl m p Y).Next (nxY (rl m p Y) X Y)
theorem occ_at (T : Tiny m s q) (C : Cfw m X p Y) {w : GRewrite} (hw : w ∈ ownL m s) {a : Nat} (ha : a ≤ (Wd m X p Y).length) (h : ((Wd m X p Y).drop a).take w.From.length = w.From) : rl m p Y ≠ noR ∧ newW (Wd m X p Y) w a = Wn m X p Y ∧ a + offW m w = X.length + 1 := by
 have hc := cut3 (Wd m X p Y) a w.From.length
 rw [h] at hc
 obtain ⟨h1, h2, off, _, h3, h4⟩ := occ T C hw hc
 refine ⟨h1, ?_, ?_⟩
 ·unfold newW putW
  rw [List.append_assoc, h2]
  rfl
 ·have : w.From.findIdx? (isS m) = some off := h4
  unfold offW
  rw [this]
  rw [List.length_take, Nat.min_eq_left ha] at h3
  exact h3
theorem mtc_new (T : Tiny m s q) (C : Cfw m X p Y) {w : GRewrite} (hw : w ∈ ownL m s) (h : mtc m X p Y w = true) : rl m p Y ≠ noR ∧ newW (Wd m X p Y) w (X.length + 1 - offW m w) = Wn m X p Y := by
 have hl := Wd_len m X p Y
 obtain ⟨h1, h2, _⟩ := occ_at T C hw (a := X.length + 1 - offW m w) (by omega) (of_decide_eq_true h)
 exact ⟨h1, h2⟩
theorem first_own (T : Tiny m s q) (C : Cfw m X p Y) (hn : rl m p Y ≠ noR) : ∃ (k : Nat) (hk : k < (ownL m s).length), mtc m X p Y (ownL m s)[k] = true ∧ ∀ j (hj : j < k), mtc m X p Y ((ownL m s)[j]'(by omega)) = false := by
 obtain ⟨w, hw, pre, suf, h⟩ := occ_ex T C hn
 have hm : mtc m X p Y w = true := by
  have e1 : ((Wd m X p Y).drop pre.length).take w.From.length = w.From := by
   rw [h, List.drop_left' rfl, List.take_left' rfl]
  have hl : pre.length ≤ (Wd m X p Y).length := by rw [h, List.length_append]; omega
  have := (occ_at T C hw hl e1).2.2
  unfold mtc
  rw [show X.length + 1 - offW m w = pre.length by omega]
  exact decide_eq_true e1
 cases hf : (ownL m s).findIdx? (mtc m X p Y) with
 | none =>
  have := List.findIdx?_eq_none_iff.1 hf w hw
  rw [this] at hm
  cases hm
 | some k =>
  obtain ⟨hk, h1, h2⟩ := List.findIdx?_eq_some_iff_getElem.1 hf
  exact ⟨k, hk, h1, fun j hj => by have := h2 j hj; simpa using this⟩
theorem none_own (T : Tiny m s q) (C : Cfw m X p Y) (hn : rl m p Y = noR) : ∀ w ∈ ownL m s, mtc m X p Y w = false := by
 intro w hw
 cases h : mtc m X p Y w
 ·rfl
 ·exact absurd hn (mtc_new T C hw h).1
theorem impl_idxF (xs : List Int) (φ : Int → Option Bool) (p : Int → Bool) (hφ : ∀ x, φ x = some (p x)) (h : xs.length ≤ 1048576) : F_slices_IndexFunc_Sint64_int64 xs φ = some (match xs.findIdx? p with | none => -1 | some i => (i : Int)) := by
 unfold F_slices_IndexFunc_Sint64_int64
 refine run_find xs (by omega) p (fun i hi => ?_) (by simp [F_slices_IndexFunc_Sint64_int64_L1])
 simp only [F_slices_IndexFunc_Sint64_int64_L1, Int.ofNat_lt, hi, decide_true, cond_true, idx_nat hi, bnd_some_eq, hφ]
 cases p xs[i] <;> rfl
theorem only_isS (m : GMachine) (x : Int) : F_impl_alphabet_onlyMove_1 x ⟨m.Symbols, m.Symbols + m.States⟩ = some (isS m x) := by
 unfold F_impl_alphabet_onlyMove_1 isS
 cases decide (m.Symbols ≤ x) <;> rfl
theorem Wd_idx (b2 : 0 ≤ m.States) (C : Cfw m X p Y) : (Wd m X p Y).findIdx? (isS m) = some (X.length + 1) := by
 have h1 : ((m.Symbols + m.States) :: X).findIdx? (isS m) = none := by
  rw [List.findIdx?_eq_none_iff]
  intro x hx
  unfold isS
  rcases List.mem_cons.1 hx with rfl | hx
  ·rw [decide_eq_false (by omega : ¬ m.Symbols + m.States < m.Symbols + m.States), Bool.and_false]
  ·have := C.sx x hx
   rw [decide_eq_false (by omega), Bool.false_and]
 have h2 : ((m.Symbols + p) :: (Y ++ [m.Symbols + m.States])).findIdx? (isS m) = some 0 := by
  have := C.p0
  have := C.p1
  rw [List.findIdx?_cons]
  unfold isS
  rw [decide_eq_true (by omega), decide_eq_true (by omega)]
  rfl
 have hW : Wd m X p Y = ((m.Symbols + m.States) :: X) ++ ((m.Symbols + p) :: (Y ++ [m.Symbols + m.States])) := rfl
 rw [hW, List.findIdx?_append, h1, h2]
 simp
theorem impl_only (T : Tiny m s q) (C : Cfw m X p Y) (hW : (Wd m X p Y).length ≤ 400) (hL : (ownL m s).length ≤ 1000) :
  (rl m p Y = noR → F_impl_alphabet_onlyMove ⟨m.Symbols, m.Symbols + m.States⟩ (ownL m s) (Wd m X p Y) = some (⟨0, 0, []⟩, false)) ∧
  (∀ (k : Nat) (hk : k < (ownL m s).length), mtc m X p Y (ownL m s)[k] = true → (∀ j (hj : j < k), mtc m X p Y ((ownL m s)[j]'(by omega)) = false) → F_impl_alphabet_onlyMove ⟨m.Symbols, m.Symbols + m.States⟩ (ownL m s) (Wd m X p Y) = some (⟨(k : Int), ((X.length + 1 - offW m (ownL m s)[k] : Nat) : Int), Wn m X p Y⟩, true)) := by
 have hl := Wd_len m X p Y
 have hq := T.hq
 have hpl : F_slices_IndexFunc_Sint64_int64 (Wd m X p Y) (fun x_ => F_impl_alphabet_onlyMove_1 x_ ⟨m.Symbols, m.Symbols + m.States⟩) = some ((X.length + 1 : Nat) : Int) := by
  rw [impl_idxF _ _ (isS m) (only_isS m) (by omega), Wd_idx (by omega) C]
 have step : ∀ j (hj : j < (ownL m s).length), F_impl_alphabet_onlyMove_L1 ⟨m.Symbols, m.Symbols + m.States⟩ (ownL m s) (Wd m X p Y) ((X.length + 1 : Nat) : Int) (j : Int) = cond (mtc m X p Y (ownL m s)[j]) (some (.inr (.ret (⟨(j : Int), ((X.length + 1 - offW m (ownL m s)[j] : Nat) : Int), Wn m X p Y⟩, true)))) (some (.inl ((j + 1 : Nat) : Int))) := by
  intro j hj
  obtain ⟨o1, o2, o3, o4⟩ := off_own T (List.getElem_mem hj)
  have e : w64 (((X.length + 1 : Nat) : Int) - (offW m (ownL m s)[j] : Int)) = ((X.length + 1 - offW m (ownL m s)[j] : Nat) : Int) := by
   rw [w64_in (by omega) (by omega)]
   omega
  simp only [F_impl_alphabet_onlyMove_L1]
  rw [decide_eq_true (by omega), cond_true, idx_nat hj, bnd_some_eq, impl_idxF _ _ (isS m) (only_isS m) (by omega), o2, bnd_some_eq]
  simp only
  rw [e, decide_eq_true (by omega), cond_true, slc_from (by omega), bnd_some_eq, impl_begins _ _ (by rw [List.length_drop]; omega), bnd_some_eq]
  have hmt : decide (((Wd m X p Y).drop (X.length + 1 - offW m (ownL m s)[j])).take (ownL m s)[j].From.length = (ownL m s)[j].From) = mtc m X p Y (ownL m s)[j] := rfl
  rw [hmt, bnd_some_eq]
  simp only [Out.elim]
  cases h : mtc m X p Y (ownL m s)[j]
  ·rw [cond_false, cond_false, w64_nat1 (by omega)]
  ·have hfit : X.length + 1 - offW m (ownL m s)[j] + (ownL m s)[j].From.length ≤ (Wd m X p Y).length := take_eq_len (of_decide_eq_true h) (by omega)
   rw [cond_true, cond_true, impl_put _ _ _ _ (by omega) (by omega) hfit, bnd_some_eq]
   have hnw := (mtc_new T C (List.getElem_mem hj) h).2
   unfold newW at hnw
   rw [hnw]
 have go : ∀ (n i : Nat) (_ : i + n ≤ (ownL m s).length), (∀ j (hj : j < i + n), i ≤ j → mtc m X p Y ((ownL m s)[j]'(by omega)) = false) → run (F_impl_alphabet_onlyMove_L1 ⟨m.Symbols, m.Symbols + m.States⟩ (ownL m s) (Wd m X p Y) ((X.length + 1 : Nat) : Int)) (i : Int) = run (F_impl_alphabet_onlyMove_L1 ⟨m.Symbols, m.Symbols + m.States⟩ (ownL m s) (Wd m X p Y) ((X.length + 1 : Nat) : Int)) ((i + n : Nat) : Int) := by
  intro n
  induction n with
  | zero => intro i _ _; rfl
  | succ n ih =>
   intro i hi hm
   have h := step i (by omega)
   rw [hm i (by omega) (Nat.le_refl _), cond_false] at h
   rw [run_next h, ih (i + 1) (by omega) (fun j hj hij => hm j (by omega) (by omega))]
   congr 1
   omega
 constructor
 ·intro hn
  have h0 := none_own T C hn
  unfold F_impl_alphabet_onlyMove
  rw [hpl, bnd_some_eq, show (0 : Int) = ((0 : Nat) : Int) from rfl, go (ownL m s).length 0 (by omega) (fun j hj _ => h0 _ (List.getElem_mem _)), Nat.zero_add, run_done (x := .brk ((ownL m s).length : Int)) (by simp only [F_impl_alphabet_onlyMove_L1]; rw [decide_eq_false (by omega), cond_false])]
  rfl
 ·intro k hk h1 h2
  have h := step k hk
  rw [h1, cond_true] at h
  unfold F_impl_alphabet_onlyMove
  rw [hpl, bnd_some_eq, show (0 : Int) = ((0 : Nat) : Int) from rfl, go k 0 (by omega) (fun j hj _ => h2 j (by omega)), Nat.zero_add, run_done h]
  rfl
end
end Go.Fn
namespace Go.Fn
open Go Go.Tc
def TreeF (fs : List Gfound) : Prop := ∀ (i : Nat) (h : i < fs.length), if i = 0 then fs[i].parent = -1 else 0 ≤ fs[i].parent ∧ fs[i].parent < i
theorem TreeF.add {fs : List Gfound} (h : TreeF fs) {m : Gmove} {k : Nat} (hk : k < fs.length) : TreeF (fs ++ [toF m k]) := by
 intro i hi
 by_cases hlt : i < fs.length
 ·rw [List.getElem_append_left hlt]
  exact h i hlt
 ·have : i = fs.length := by simp at hi; omega
  subst this
  rw [if_neg (by omega)]
  simp [toF]
  omega
def zF : Gfound := ⟨0, 0, [], -1⟩
def rowF (f : Gfound) : List Int := [f.move_rule, f.move_at_]
def pth (fs : List Gfound) : Nat → Nat → List (List Int)
 | 0, _ => []
 | f + 1, i => if i = 0 then [] else pth fs f (fs.getD i zF).parent.toNat ++ [rowF (fs.getD i zF)]
def fin (fs : List Gfound) (c : Bool) (to : List Int) : List (List Int) × Int := match fs.findIdx? fun f => decide (f.move_word = to) with
 | none => ([], if c then 3 else 5)
 | some i => if 100 < (pth fs 300 i).length then ([], 5) else (pth fs 300 i, 0)
end Go.Fn
namespace Go.Fn
open Go Go.Tc
theorem uniq_at {l1 l2 u v : List Int} {z z' : Int} (h1 : z' ∉ l1) (h2 : z' ∉ l2) (h : l1 ++ (z :: l2) = u ++ (z' :: v)) : u = l1 ∧ z' = z ∧ v = l2 := by
 have hl : u.length = l1.length := by
  rcases Nat.lt_trichotomy u.length l1.length with g1 | g1 | g1
  ·exfalso
   have g : (l1 ++ (z :: l2))[u.length]? = (u ++ (z' :: v))[u.length]? := by rw [h]
   rw [List.getElem?_append_left g1, List.getElem?_append_right (Nat.le_refl _), Nat.sub_self, List.getElem?_cons_zero] at g
   exact h1 (List.mem_of_getElem? g)
  ·exact g1
  ·exfalso
   have g : (l1 ++ (z :: l2))[u.length]? = (u ++ (z' :: v))[u.length]? := by rw [h]
   rw [List.getElem?_append_right (by omega), List.getElem?_append_right (Nat.le_refl _), Nat.sub_self, List.getElem?_cons_zero] at g
   obtain ⟨n, hn⟩ : ∃ n, u.length - l1.length = n + 1 := ⟨u.length - l1.length - 1, by omega⟩
   rw [hn, List.getElem?_cons_succ] at g
   exact h2 (List.mem_of_getElem? g)
 obtain ⟨e1, e2⟩ := List.append_inj h hl.symm
 simp only [List.cons.injEq] at e2
 exact ⟨e1.symm, e2.1.symm, e2.2.symm⟩
theorem mem_posn {w f : List Int} {a : Nat} : a ∈ posn w f ↔ a ≤ w.length ∧ (w.drop a).take f.length = f := by
 unfold posn
 rw [List.mem_filter, List.mem_range, decide_eq_true_eq]
 constructor
 ·rintro ⟨h1, h2⟩; exact ⟨by omega, h2⟩
 ·rintro ⟨h1, h2⟩; exact ⟨by omega, h2⟩
theorem posn_one {w f : List Int} {a0 : Nat} (h : ∀ a, a ∈ posn w f → a = a0) : posn w f = if (w.drop a0).take f.length = f ∧ a0 ≤ w.length then [a0] else [] := by
 have hh : ∀ a, a < w.length + 1 → decide ((w.drop a).take f.length = f) = true → a = a0 := fun a ha hd => h a (mem_posn.2 ⟨by omega, of_decide_eq_true hd⟩)
 unfold posn
 rw [filter_one (w.length + 1) hh]
 by_cases hc : (w.drop a0).take f.length = f ∧ a0 ≤ w.length
 ·rw [if_pos hc, if_pos ⟨by omega, decide_eq_true hc.1⟩]
 ·rw [if_neg hc, if_neg]
  rintro ⟨h1, h2⟩
  exact hc ⟨of_decide_eq_true h2, by omega⟩
theorem idx_get {α : Type} (xs : List α) (k : Nat) : idx xs (k : Int) = xs[k]? := by
 unfold idx
 rw [if_neg (by omega), Int.toNat_natCast]
def ers (m : GMachine) : Int := m.Symbols + m.States + 1
def Ed (m : GMachine) (L R : List Int) : List Int := (m.Symbols + m.States) :: (L ++ (ers m :: (R ++ [m.Symbols + m.States])))
theorem Ed_len (m : GMachine) (L R : List Int) : (Ed m L R).length = L.length + R.length + 3 := by
 unfold Ed
 simp only [List.length_cons, List.length_append, List.length_nil]
 omega
def freeL (m : GMachine) : List GRewrite := (List.range m.Rules.length).flatMap fun i => cond (isNo m i) (freeRw m i) []
def eraseL (m : GMachine) (s : Nat) : List GRewrite := (List.range s).flatMap (eraseRw m)
theorem haltL_eq (m : GMachine) (s : Nat) : haltL m s = ownL m s ++ (freeL m ++ eraseL m s) := by
 unfold haltL freeL eraseL
 rw [List.append_assoc]
theorem eraseL_len (m : GMachine) : ∀ s, (eraseL m s).length = 2 * s
 | 0 => rfl
 | s + 1 => by
  have := eraseL_len m s
  unfold eraseL at this ⊢
  rw [List.range_succ, List.flatMap_append, List.length_append, this]
  simp [eraseRw]
  omega
theorem eraseL_get (m : GMachine) : ∀ (s c : Nat), c < s → (eraseL m s)[2 * c]? = some ⟨[ers m, (c : Int)], [ers m]⟩ ∧ (eraseL m s)[2 * c + 1]? = some ⟨[(c : Int), ers m], [ers m]⟩
 | 0, c, h => by omega
 | s + 1, c, h => by
  have hl := eraseL_len m s
  have he : eraseL m (s + 1) = eraseL m s ++ eraseRw m s := by
   unfold eraseL
   rw [List.range_succ, List.flatMap_append]
   simp
  rw [he]
  by_cases hc : c < s
  ·obtain ⟨a, b⟩ := eraseL_get m s c hc
   rw [List.getElem?_append_left (by omega), List.getElem?_append_left (by omega)]
   exact ⟨a, b⟩
  ·have : c = s := by omega
   subst this
   rw [List.getElem?_append_right (by omega), List.getElem?_append_right (by omega), hl, Nat.sub_self, Nat.add_sub_cancel_left]
   exact ⟨rfl, rfl⟩
section
variable {m : GMachine} {s q : Nat}
theorem freeL_mem (T : Tiny m s q) (w : GRewrite) : w ∈ freeL m ↔ ∃ p a : Nat, p < q ∧ a < s ∧ m.Rules.getD (p * s + a) noR = noR ∧ (w = ⟨[m.Symbols + (p : Int), (a : Int)], [ers m]⟩ ∨ (a = 0 ∧ w = ⟨[m.Symbols + (p : Int), m.Symbols + m.States], [ers m, m.Symbols + m.States]⟩)) := by
 have hs := T.hs
 have hq := T.hq
 have b1 := T.b1
 have b3 := T.b3
 have hfr : ∀ p a : Nat, p < q → a < s → (w ∈ freeRw m (p * s + a) ↔ (w = ⟨[m.Symbols + (p : Int), (a : Int)], [ers m]⟩ ∨ (a = 0 ∧ w = ⟨[m.Symbols + (p : Int), m.Symbols + m.States], [ers m, m.Symbols + m.States]⟩))) := by
  intro p a hp ha
  have hd : Int.tdiv ((p * s + a : Nat) : Int) m.Symbols = (p : Int) := by
   rw [hs, Int.tdiv_eq_ediv_of_nonneg (by omega)]
   have : (p * s + a) / s = p := by rw [Nat.mul_comm, Nat.mul_add_div (by omega), Nat.div_eq_of_lt ha, Nat.add_zero]
   omega
  have hm : Int.tmod ((p * s + a : Nat) : Int) m.Symbols = (a : Int) := by
   rw [hs, Int.tmod_eq_emod_of_nonneg (by omega)]
   have : (p * s + a) % s = a := by rw [Nat.mul_comm, Nat.mul_add_mod, Nat.mod_eq_of_lt ha]
   omega
  unfold freeRw ers
  rw [hd, hm, w64_in (n := (p : Int)) (by omega) (by omega), w64_in (n := m.Symbols + (p : Int)) (by omega) (by omega)]
  by_cases h0 : a = 0
  ·rw [decide_eq_true (by omega), cond_true]
   simp [h0]
  ·rw [decide_eq_false (by omega), cond_false]
   simp [h0]
 unfold freeL
 rw [List.mem_flatMap]
 constructor
 ·rintro ⟨i, hi, hw⟩
  have hi := List.mem_range.1 hi
  rw [T.hl] at hi
  obtain ⟨p, a, hp, ha, rfl⟩ := split_at hi (by omega)
  unfold isNo at hw
  by_cases hn : m.Rules.getD (p * s + a) noR = noR
  ·rw [decide_eq_true hn, cond_true] at hw
   exact ⟨p, a, hp, ha, hn, (hfr p a hp ha).1 hw⟩
  ·rw [decide_eq_false hn, cond_false] at hw
   simp at hw
 ·rintro ⟨p, a, hp, ha, hn, hw⟩
  refine ⟨p * s + a, List.mem_range.2 (by rw [T.hl]; exact at_lt hp ha), ?_⟩
  unfold isNo
  rw [decide_eq_true hn, cond_true]
  exact (hfr p a hp ha).2 hw
variable {X : List Int} {p : Int} {Y : List Int}
theorem occF (T : Tiny m s q) (C : Cfw m X p Y) {w : GRewrite} (hw : w ∈ freeL m) {pre suf : List Int} (h : Wd m X p Y = pre ++ (w.From ++ suf)) : pre.length = X.length + 1 ∧ pre ++ (w.To ++ suf) = Ed m X Y.tail := by
 have hq := T.hq
 have b2 := T.b2
 obtain ⟨p', a, hp, ha, hn, rfl | ⟨h0, rfl⟩⟩ := (freeL_mem T w).1 hw
 ·obtain ⟨e1, e2, e3⟩ := place1 C (show m.Symbols ≤ m.Symbols + (p' : Int) ∧ m.Symbols + (p' : Int) < m.Symbols + m.States by omega) (u := pre) (v := (a : Int) :: suf) h
  have hs := T.hs
  obtain ⟨e4, e5⟩ := after1 C.sy (by omega) (by omega) e3
  rw [e1, e5]
  exact ⟨by rw [List.length_cons], by unfold Ed; simp⟩
 ·obtain ⟨e1, e2, e3⟩ := place1 C (show m.Symbols ≤ m.Symbols + (p' : Int) ∧ m.Symbols + (p' : Int) < m.Symbols + m.States by omega) (u := pre) (v := (m.Symbols + m.States) :: suf) h
  obtain ⟨e4, e5⟩ := after2 C.sy (by omega) e3
  rw [e1, e5, e4]
  exact ⟨by rw [List.length_cons], by unfold Ed; simp⟩
theorem occF_ex (T : Tiny m s q) (C : Cfw m X p Y) (hn : rl m p Y = noR) : ∃ w ∈ freeL m, ∃ pre suf, Wd m X p Y = pre ++ (w.From ++ suf) := by
 have hs := T.hs
 have hq := T.hq
 have b1 := T.b1
 have hp0 := C.p0
 have hp1 := C.p1
 obtain ⟨p', rfl⟩ : ∃ p' : Nat, p = (p' : Int) := ⟨p.toNat, by omega⟩
 have hy : 0 ≤ Y.headD 0 ∧ Y.headD 0 < m.Symbols := by
  cases Y with
  | nil => show (0 : Int) ≤ 0 ∧ (0 : Int) < m.Symbols; omega
  | cons y Y => exact C.sy y (List.mem_cons_self ..)
 obtain ⟨a, hya⟩ : ∃ a : Nat, Y.headD 0 = (a : Int) := ⟨(Y.headD 0).toNat, by omega⟩
 have hr : rl m (p' : Int) Y = m.Rules.getD (p' * s + a) noR := by
  unfold rl
  rw [hya, hs]
  congr 1
 rw [hr] at hn
 cases Y with
 | nil =>
  have h0 : a = 0 := by
   have : (0 : Int) = (a : Int) := hya
   omega
  exact ⟨_, (freeL_mem T _).2 ⟨p', a, by omega, by omega, hn, .inr ⟨h0, rfl⟩⟩, (m.Symbols + m.States) :: X, [], by unfold Wd; simp⟩
 | cons y Y =>
  have h0 : y = (a : Int) := hya
  exact ⟨_, (freeL_mem T _).2 ⟨p', a, by omega, by omega, hn, .inl rfl⟩, (m.Symbols + m.States) :: X, Y ++ [m.Symbols + m.States], by unfold Wd; rw [h0]; simp⟩
def mF (m : GMachine) (X : List Int) (p : Int) (Y : List Int) (w : GRewrite) : Bool := decide (((Wd m X p Y).drop (X.length + 1)).take w.From.length = w.From)
theorem newF (T : Tiny m s q) (C : Cfw m X p Y) {w : GRewrite} (hw : w ∈ freeL m) (h : mF m X p Y w = true) : putW (Wd m X p Y) w.To (X.length + 1) w.From.length = Ed m X Y.tail := by
 have hc := cut3 (Wd m X p Y) (X.length + 1) w.From.length
 unfold mF at h
 rw [of_decide_eq_true h] at hc
 have := (occF T C hw hc).2
 unfold putW
 rw [List.append_assoc, this]
theorem firstF (T : Tiny m s q) (C : Cfw m X p Y) (hn : rl m p Y = noR) : ∃ (k : Nat) (hk : k < (freeL m).length), mF m X p Y (freeL m)[k] = true ∧ ∀ j (hj : j < k), mF m X p Y ((freeL m)[j]'(by omega)) = false := by
 obtain ⟨w, hw, pre, suf, h⟩ := occF_ex T C hn
 have hm : mF m X p Y w = true := by
  have e := (occF T C hw h).1
  unfold mF
  rw [← e, h, List.drop_left' rfl, List.take_left' rfl]
  exact decide_eq_true rfl
 cases hf : (freeL m).findIdx? (mF m X p Y) with
 | none =>
  have := List.findIdx?_eq_none_iff.1 hf w hw
  rw [this] at hm
  cases hm
 | some k =>
  obtain ⟨hk, h1, h2⟩ := List.findIdx?_eq_some_iff_getElem.1 hf
  exact ⟨k, hk, h1, fun j hj => by have := h2 j hj; simpa using this⟩
theorem free_small (T : Tiny m s q) : ∀ w ∈ freeL m, ∃ p' : Nat, p' < q ∧ ∃ b : Int, (b < m.Symbols ∨ b = m.Symbols + m.States) ∧ w.From = [m.Symbols + (p' : Int), b] ∧ w.To.length ≤ 2 := by
 intro w hw
 have hs := T.hs
 obtain ⟨p', a, hp, ha, hn, rfl | ⟨h0, rfl⟩⟩ := (freeL_mem T w).1 hw
 ·exact ⟨p', hp, (a : Int), .inl (by omega), rfl, by simp⟩
 ·exact ⟨p', hp, _, .inr rfl, rfl, by simp⟩
end
end Go.Fn
namespace Go.Fn
open Go Go.Tc
theorem skip_run {X : Type} {body : Int → Option (Int ⊕ X)} : ∀ (n k : Nat), (∀ j : Nat, k ≤ j → j < k + n → body (j : Int) = some (.inl ((j + 1 : Nat) : Int))) → run body (k : Int) = run body ((k + n : Nat) : Int)
 | 0, k, _ => rfl
 | n + 1, k, h => by
  rw [run_next (h k (Nat.le_refl _) (by omega)), skip_run n (k + 1) (fun j h1 h2 => h j (by omega) (by omega))]
  congr 1
  omega
section
variable {m : GMachine} {s q : Nat}
def bas (m : GMachine) (s : Nat) : Nat := (ownL m s).length + (freeL m).length
theorem halt_free {k : Nat} (hk : k < (freeL m).length) : (haltL m s)[(ownL m s).length + k]? = some (freeL m)[k] := by
 rw [haltL_eq, List.getElem?_append_right (by omega), Nat.add_sub_cancel_left, List.getElem?_append_left hk, List.getElem?_eq_getElem hk]
theorem halt_erase {c : Nat} (hc : c < s) : (haltL m s)[bas m s + 2 * c]? = some ⟨[ers m, (c : Int)], [ers m]⟩ ∧ (haltL m s)[bas m s + 2 * c + 1]? = some ⟨[(c : Int), ers m], [ers m]⟩ := by
 have hl := eraseL_len m s
 obtain ⟨a, b⟩ := eraseL_get m s c hc
 unfold bas
 rw [haltL_eq, List.getElem?_append_right (by omega), List.getElem?_append_right (by omega), List.getElem?_append_right (by omega), List.getElem?_append_right (by omega)]
 constructor
 ·rw [← a]; congr 1; omega
 ·rw [← b]; congr 1; omega
theorem halt_len : (haltL m s).length = bas m s + 2 * s := by
 have hl := eraseL_len m s
 unfold bas
 rw [haltL_eq, List.length_append, List.length_append]
 omega
variable {X : List Int} {p : Int} {Y : List Int}
theorem Wd_no_ers (T : Tiny m s q) (C : Cfw m X p Y) : ers m ∉ Wd m X p Y := by
 have hq := T.hq
 have := C.p1
 unfold Wd ers
 simp only [List.mem_cons, List.mem_append, List.not_mem_nil, or_false, not_or]
 refine ⟨by omega, fun h => ?_, by omega, fun h => ?_, by omega⟩
 ·have := C.sx _ h; omega
 ·have := C.sy _ h; omega
theorem idx_none {w : List Int} {z : Int} (hw : w.length ≤ 1048576) (h : z ∉ w) : F_slices_Index_Sint64_int64 w z = some (-1) := by
 rw [impl_index _ _ hw]
 have : w.findIdx? (fun y => decide (z = y)) = none := by
  rw [List.findIdx?_eq_none_iff]
  intro y hy
  exact decide_eq_false (fun e => h (e ▸ hy))
 rw [this]
theorem idx_first {u v : List Int} {z : Int} (hw : (u ++ (z :: v)).length ≤ 1048576) (h : z ∉ u) : F_slices_Index_Sint64_int64 (u ++ (z :: v)) z = some (u.length : Int) := by
 rw [impl_index _ _ hw]
 have h1 : u.findIdx? (fun y => decide (z = y)) = none := by
  rw [List.findIdx?_eq_none_iff]
  intro y hy
  exact decide_eq_false (fun e => h (e ▸ hy))
 have h2 : (z :: v).findIdx? (fun y => decide (z = y)) = some 0 := by
  rw [List.findIdx?_cons, decide_eq_true rfl]
  rfl
 rw [List.findIdx?_append, h1, h2]
 simp
theorem impl_first (T : Tiny m s q) (C : Cfw m X p Y) (hW : (Wd m X p Y).length ≤ 400) (hL : (haltL m s).length ≤ 60) {k : Nat} (hk : k < (freeL m).length) (h1 : mF m X p Y (freeL m)[k] = true) (h2 : ∀ j (hj : j < k), mF m X p Y ((freeL m)[j]'(by omega)) = false) :
  F_impl_erasing (haltL m s) ((ownL m s).length : Int) (Wd m X p Y) (ers m) = some (⟨(((ownL m s).length + k : Nat) : Int), ((X.length + 1 : Nat) : Int), Ed m X Y.tail⟩, true) := by
 have hlen := halt_len (m := m) (s := s)
 have hl := Wd_len m X p Y
 have hq := T.hq
 have hp0 := C.p0
 have hp1 := C.p1
 have step : ∀ j (hj : j < (freeL m).length), F_impl_erasing_L1 (haltL m s) (Wd m X p Y) (ers m) (-1) (((ownL m s).length + j : Nat) : Int) = cond (mF m X p Y (freeL m)[j]) (some (.inr (.ret (⟨(((ownL m s).length + j : Nat) : Int), ((X.length + 1 : Nat) : Int), Ed m X Y.tail⟩, true)))) (some (.inl (((ownL m s).length + j + 1 : Nat) : Int))) := by
  intro j hj
  obtain ⟨p', hp', b, hb, hF, hT⟩ := free_small T _ (List.getElem_mem hj)
  have hkl : (ownL m s).length + j < (haltL m s).length := by rw [hlen]; unfold bas; omega
  have hbody : ∀ (c : Bool) (at' : Int), (c = true → at' = ((X.length + 1 : Nat) : Int)) → c = mF m X p Y (freeL m)[j] → (cond c (bnd (F_impl_replaced (Wd m X p Y) at' ((freeL m)[j].From.length : Int) (freeL m)[j].To) fun r31 => some (.inr (.ret ((⟨(((ownL m s).length + j : Nat) : Int), at', r31⟩ : Gmove), true)))) (some (.inl (w64 ((((ownL m s).length + j : Nat) : Int) + 1)))) : Option (Int ⊕ Out Int (Gmove × Bool))) = cond (mF m X p Y (freeL m)[j]) (some (.inr (.ret (⟨(((ownL m s).length + j : Nat) : Int), ((X.length + 1 : Nat) : Int), Ed m X Y.tail⟩, true)))) (some (.inl (((ownL m s).length + j + 1 : Nat) : Int))) := by
   intro c at' h1 h2
   rw [← h2]
   cases c
   ·rw [cond_false, cond_false, w64_nat1 (by omega)]
   ·have hm := h2.symm
    rw [cond_true, cond_true, h1 rfl]
    have hfit : X.length + 1 + (freeL m)[j].From.length ≤ (Wd m X p Y).length := take_eq_len (of_decide_eq_true hm) (by omega)
    rw [impl_put _ _ _ _ (by omega) (by omega) hfit, bnd_some_eq, newF T C (List.getElem_mem _) hm]
  have i0 : idx (freeL m)[j].From 0 = some (m.Symbols + (p' : Int)) := by rw [hF]; rfl
  simp only [F_impl_erasing_L1]
  rw [decide_eq_true (by omega), cond_true, idx_get, halt_free hj, bnd_some_eq, decide_eq_true (by decide), cond_true, i0, bnd_some_eq]
  by_cases hpp : p = (p' : Int)
  ·have hix : F_slices_Index_Sint64_int64 (Wd m X p Y) (m.Symbols + (p' : Int)) = some ((X.length + 1 : Nat) : Int) := by
    have hW' : Wd m X p Y = ((m.Symbols + m.States) :: X) ++ ((m.Symbols + (p' : Int)) :: (Y ++ [m.Symbols + m.States])) := by rw [← hpp]; rfl
    rw [hW', idx_first (by rw [← hW']; omega) (by
     intro h
     rcases List.mem_cons.1 h with h | h
     ·omega
     ·have := C.sx _ h; omega)]
    rfl
   rw [hix, bnd_some_eq, decide_eq_true (by omega), cond_true, slc_from (by omega), bnd_some_eq, impl_begins _ _ (by rw [List.length_drop]; omega), bnd_some_eq, bnd_some_eq]
   exact hbody _ _ (fun _ => rfl) rfl
  ·have hix : F_slices_Index_Sint64_int64 (Wd m X p Y) (m.Symbols + (p' : Int)) = some (-1) := by
    refine idx_none (by omega) ?_
    unfold Wd
    simp only [List.mem_cons, List.mem_append, List.not_mem_nil, or_false, not_or]
    refine ⟨by omega, fun h => ?_, by omega, fun h => ?_, by omega⟩
    ·have := C.sx _ h; omega
    ·have := C.sy _ h; omega
   rw [hix, bnd_some_eq, decide_eq_false (by decide), cond_false, bnd_some_eq]
   refine hbody false (-1) (fun h => by cases h) ?_
   cases hm : mF m X p Y (freeL m)[j]
   ·rfl
   ·exfalso
    unfold mF at hm
    have hm := of_decide_eq_true hm
    have hd : (Wd m X p Y).drop (X.length + 1) = (m.Symbols + p) :: (Y ++ [m.Symbols + m.States]) := by
     have hW' : Wd m X p Y = ((m.Symbols + m.States) :: X) ++ ((m.Symbols + p) :: (Y ++ [m.Symbols + m.States])) := rfl
     rw [hW', List.drop_left' (by rw [List.length_cons])]
    rw [hd, hF] at hm
    simp only [List.length_cons, List.length_nil, List.take_succ_cons, List.cons.injEq] at hm
    omega
 have hr2 : F_slices_Index_Sint64_int64 (Wd m X p Y) (ers m) = some (-1) := idx_none (by omega) (Wd_no_ers T C)
 unfold F_impl_erasing
 rw [hr2, bnd_some_eq, skip_run k (ownL m s).length (fun j hj1 hj2 => by
  obtain ⟨j', rfl⟩ : ∃ j', j = (ownL m s).length + j' := ⟨j - (ownL m s).length, by omega⟩
  have := step j' (by omega)
  rw [h2 j' (by omega), cond_false] at this
  exact this)]
 have hst := step k hk
 rw [h1, cond_true] at hst
 rw [run_done hst, bnd_some_eq]
 rfl
variable {L R : List Int}
structure Edw (m : GMachine) (L R : List Int) : Prop where
 sl : sym m L
 sr : sym m R
 hl : (Ed m L R).length ≤ 400
theorem ers_no (T : Tiny m s q) (E : Edw m L R) : ers m ∉ (m.Symbols + m.States) :: L ∧ ers m ∉ R ++ [m.Symbols + m.States] := by
 have hq := T.hq
 unfold ers
 constructor
 ·intro h
  rcases List.mem_cons.1 h with h | h
  ·omega
  ·have := E.sl _ h; omega
 ·intro h
  rcases List.mem_append.1 h with h | h
  ·have := E.sr _ h; omega
  ·rw [List.mem_singleton] at h; omega
theorem posn_r (T : Tiny m s q) (E : Edw m L R) (c : Int) : posn (Ed m L R) [ers m, c] = if (R ++ [m.Symbols + m.States]).head? = some c then [L.length + 1] else [] := by
 obtain ⟨n1, n2⟩ := ers_no T E
 have hE : Ed m L R = ((m.Symbols + m.States) :: L) ++ (ers m :: (R ++ [m.Symbols + m.States])) := rfl
 have hlen := Ed_len m L R
 rw [posn_one (a0 := L.length + 1) (fun a ha => by
  obtain ⟨h1, h2⟩ := mem_posn.1 ha
  have hc := cut3 (Ed m L R) a [ers m, c].length
  rw [h2, hE] at hc
  obtain ⟨g1, _, _⟩ := uniq_at (u := (Ed m L R).take a) (z' := ers m) (v := c :: (Ed m L R).drop (a + 2)) n1 n2 hc
  have := congrArg List.length g1
  rw [List.length_take, Nat.min_eq_left h1, List.length_cons] at this
  exact this)]
 have hd : (Ed m L R).drop (L.length + 1) = ers m :: (R ++ [m.Symbols + m.States]) := by
  rw [hE, List.drop_left' (by rw [List.length_cons])]
 rw [hd]
 cases hR : R ++ [m.Symbols + m.States] with
 | nil => simp at hR
 | cons y l =>
  simp only [List.length_cons, List.length_nil, List.take_succ_cons, List.take_zero, List.cons.injEq, and_true, true_and, List.head?_cons, Option.some.injEq]
  by_cases hy : y = c
  ·rw [if_pos ⟨hy, by omega⟩, if_pos hy]
  ·rw [if_neg (fun e => hy e.1), if_neg hy]
theorem posn_l (T : Tiny m s q) (E : Edw m L R) (c : Int) : posn (Ed m L R) [c, ers m] = if ((m.Symbols + m.States) :: L).getLast? = some c then [L.length] else [] := by
 obtain ⟨n1, n2⟩ := ers_no T E
 have hE : Ed m L R = ((m.Symbols + m.States) :: L) ++ (ers m :: (R ++ [m.Symbols + m.States])) := rfl
 have hlen := Ed_len m L R
 rw [posn_one (a0 := L.length) (fun a ha => by
  obtain ⟨h1, h2⟩ := mem_posn.1 ha
  have hc := cut3 (Ed m L R) a [c, ers m].length
  rw [h2] at hc
  have hc' : ((m.Symbols + m.States) :: L) ++ (ers m :: (R ++ [m.Symbols + m.States])) = ((Ed m L R).take a ++ [c]) ++ (ers m :: (Ed m L R).drop (a + 2)) := by
   refine (hE.symm.trans hc).trans ?_
   simp
  obtain ⟨g1, _, _⟩ := uniq_at n1 n2 hc'
  have := congrArg List.length g1
  simp only [List.length_append, List.length_take, Nat.min_eq_left h1, List.length_cons, List.length_nil] at this
  omega)]
 obtain ⟨l', z, hz⟩ : ∃ l' z, (m.Symbols + m.States) :: L = l' ++ [z] := by
  rcases snoc_cases ((m.Symbols + m.States) :: L) with h | ⟨l', z, h⟩
  ·cases h
  ·exact ⟨l', z, h⟩
 have hl' : l'.length = L.length := by
  have := congrArg List.length hz
  rw [List.length_cons, List.length_append, List.length_singleton] at this
  omega
 have hd : (Ed m L R).drop L.length = z :: ers m :: (R ++ [m.Symbols + m.States]) := by
  rw [hE, hz, ← hl', List.append_assoc, List.drop_left' rfl]
  rfl
 rw [hd, hz, List.getLast?_concat]
 simp only [List.length_cons, List.length_nil, List.take_succ_cons, List.take_zero, List.cons.injEq, and_true, Option.some.injEq]
 by_cases hy : z = c
 ·rw [if_pos ⟨hy, by omega⟩, if_pos hy]
 ·rw [if_neg (fun e => hy e.1), if_neg hy]
theorem put_r {c : Int} {R' : List Int} : putW (Ed m L (c :: R')) [ers m] (L.length + 1) 2 = Ed m L R' := by
 have hE : Ed m L (c :: R') = ((m.Symbols + m.States) :: L) ++ ([ers m, c] ++ (R' ++ [m.Symbols + m.States])) := by unfold Ed; simp
 unfold putW
 rw [hE, List.take_left' (by rw [List.length_cons]), ← List.append_assoc, List.drop_left' (by simp)]
 unfold Ed
 simp
theorem put_l {c : Int} {L' : List Int} : putW (Ed m (L' ++ [c]) R) [ers m] (L'.length + 1) 2 = Ed m L' R := by
 have hE : Ed m (L' ++ [c]) R = ((m.Symbols + m.States) :: L') ++ ([c, ers m] ++ (R ++ [m.Symbols + m.States])) := by unfold Ed; simp
 unfold putW
 rw [hE, List.take_left' (by rw [List.length_cons]), ← List.append_assoc, List.drop_left' (by simp)]
 unfold Ed
 simp
theorem Edw.tailr {c : Int} (E : Edw m L (c :: R)) : Edw m L R := ⟨E.sl, fun x hx => E.sr x (List.mem_cons_of_mem _ hx), by
 have := E.hl
 rw [Ed_len] at this ⊢
 rw [List.length_cons] at this
 omega⟩
theorem Edw.initl {c : Int} (E : Edw m (L ++ [c]) R) : Edw m L R := ⟨fun x hx => E.sl x (List.mem_append_left _ hx), E.sr, by
 have := E.hl
 rw [Ed_len] at this ⊢
 rw [List.length_append] at this
 omega⟩
end
end Go.Fn
namespace Go.Fn
open Go Go.Tc
section
variable {m : GMachine} {s q : Nat} {L R : List Int}
theorem halt_index {j : Nat} (h1 : (ownL m s).length ≤ j) (h2 : j < (haltL m s).length) : (∃ i, i < (freeL m).length ∧ j = (ownL m s).length + i) ∨ (∃ c, c < s ∧ j = bas m s + 2 * c) ∨ (∃ c, c < s ∧ j = bas m s + 2 * c + 1) := by
 have hlen := halt_len (m := m) (s := s)
 by_cases hj : j < bas m s
 ·exact .inl ⟨j - (ownL m s).length, by unfold bas at hj; omega, by omega⟩
 ·by_cases he : (j - bas m s) % 2 = 0
  ·exact .inr (.inl ⟨(j - bas m s) / 2, by omega, by omega⟩)
  ·exact .inr (.inr ⟨(j - bas m s) / 2, by omega, by omega⟩)
theorem er1 (T : Tiny m s q) (E : Edw m L R) (hL : (haltL m s).length ≤ 60) {j : Nat} (h1 : (ownL m s).length ≤ j) (h2 : j < (haltL m s).length) (hno : ∀ c, c < s → j = bas m s + 2 * c → (R ++ [m.Symbols + m.States]).head? ≠ some (c : Int)) :
  F_impl_erasing_L1 (haltL m s) (Ed m L R) (ers m) ((L.length + 1 : Nat) : Int) (j : Int) = some (.inl ((j + 1 : Nat) : Int)) := by
 have hs := T.hs
 have hq := T.hq
 have hlen := Ed_len m L R
 have el := E.hl
 have hd : (Ed m L R).drop (L.length + 1) = ers m :: (R ++ [m.Symbols + m.States]) := by
  have hE : Ed m L R = ((m.Symbols + m.States) :: L) ++ (ers m :: (R ++ [m.Symbols + m.States])) := rfl
  rw [hE, List.drop_left' (by rw [List.length_cons])]
 simp only [F_impl_erasing_L1]
 rw [decide_eq_true (by omega), cond_true, idx_get]
 rcases halt_index h1 h2 with ⟨i, hi, rfl⟩ | ⟨c, hc, rfl⟩ | ⟨c, hc, rfl⟩
 ·obtain ⟨p', hp', b, hb, hF, _⟩ := free_small T _ (List.getElem_mem hi)
  have i0 : idx (freeL m)[i].From 0 = some (m.Symbols + (p' : Int)) := by rw [hF]; rfl
  rw [halt_free hi, bnd_some_eq, decide_eq_false (by omega), cond_false, i0, bnd_some_eq, decide_eq_true (by unfold ers; omega), cond_true, w64_nat1 (by omega)]
 ·have hne := hno c hc rfl
  rw [(halt_erase hc).1, bnd_some_eq, decide_eq_false (by omega), cond_false]
  simp only
  have i0 : idx ([ers m, (c : Int)] : List Int) 0 = some (ers m) := rfl
  rw [i0, bnd_some_eq, decide_eq_false (fun h => h rfl), cond_false, decide_eq_true (by omega), cond_true, slc_from (by omega), bnd_some_eq, impl_begins _ _ (by rw [List.length_drop]; omega), bnd_some_eq, hd]
  have : decide ((ers m :: (R ++ [m.Symbols + m.States])).take [ers m, (c : Int)].length = [ers m, (c : Int)]) = false := by
   apply decide_eq_false
   intro h
   cases hR : R ++ [m.Symbols + m.States] with
   | nil => simp at hR
   | cons y l =>
    rw [hR] at h hne
    simp only [List.length_cons, List.length_nil, List.take_succ_cons, List.take_zero, List.cons.injEq, and_true, true_and] at h
    exact hne (by rw [h]; rfl)
  rw [this, bnd_some_eq]
  simp only [Out.elim, cond_false]
  rw [w64_nat1 (by omega)]
 ·rw [(halt_erase hc).2, bnd_some_eq, decide_eq_false (by omega), cond_false]
  simp only
  have i0 : idx ([(c : Int), ers m] : List Int) 0 = some (c : Int) := rfl
  rw [i0, bnd_some_eq, decide_eq_true (by unfold ers; omega), cond_true, w64_nat1 (by omega)]
theorem er2 (T : Tiny m s q) (E : Edw m L []) (hL : (haltL m s).length ≤ 60) {j : Nat} (h1 : (ownL m s).length ≤ j) (h2 : j < (haltL m s).length) (hno : ∀ c, c < s → j = bas m s + 2 * c + 1 → ((m.Symbols + m.States) :: L).getLast? ≠ some (c : Int)) :
  F_impl_erasing_L2 (haltL m s) (Ed m L []) (ers m) ((L.length + 1 : Nat) : Int) (j : Int) = some (.inl ((j + 1 : Nat) : Int)) := by
 have hs := T.hs
 have hq := T.hq
 have hlen := Ed_len m L []
 have el := E.hl
 simp only [F_impl_erasing_L2]
 rw [decide_eq_true (by omega), cond_true, decide_eq_true (by omega), cond_true, idx_get]
 rcases halt_index h1 h2 with ⟨i, hi, rfl⟩ | ⟨c, hc, rfl⟩ | ⟨c, hc, rfl⟩
 ·obtain ⟨p', hp', b, hb, hF, _⟩ := free_small T _ (List.getElem_mem hi)
  have i1 : idx (freeL m)[i].From 1 = some b := by rw [hF]; rfl
  rw [halt_free hi, bnd_some_eq, i1, bnd_some_eq, decide_eq_false (by unfold ers; omega), cond_false, bnd_some_eq]
  simp only [Out.elim, cond_false]
  rw [w64_nat1 (by omega)]
 ·rw [(halt_erase hc).1, bnd_some_eq]
  simp only
  have i1 : idx ([ers m, (c : Int)] : List Int) 1 = some (c : Int) := rfl
  rw [i1, bnd_some_eq, decide_eq_false (by unfold ers; omega), cond_false, bnd_some_eq]
  simp only [Out.elim, cond_false]
  rw [w64_nat1 (by omega)]
 ·have hne := hno c hc rfl
  have hw : w64 (((L.length + 1 : Nat) : Int) - 1) = (L.length : Int) := by rw [w64_in (by omega) (by omega)]; omega
  obtain ⟨z, hz⟩ : ∃ z, (Ed m L [])[L.length]? = some z ∧ ((m.Symbols + m.States) :: L).getLast? = some z := by
   rcases snoc_cases ((m.Symbols + m.States) :: L) with h | ⟨l', z, h⟩
   ·cases h
   ·have hl' : l'.length = L.length := by
     have := congrArg List.length h
     rw [List.length_cons, List.length_append, List.length_singleton] at this
     omega
    refine ⟨z, ?_, by rw [h, List.getLast?_concat]⟩
    have hE : Ed m L [] = ((m.Symbols + m.States) :: L) ++ (ers m :: ([] ++ [m.Symbols + m.States])) := rfl
    rw [hE, h, List.append_assoc, List.getElem?_append_right (by omega), hl', Nat.sub_self]
    rfl
  rw [(halt_erase hc).2, bnd_some_eq]
  simp only
  have i1 : idx ([(c : Int), ers m] : List Int) 1 = some (ers m) := rfl
  have i0 : idx ([(c : Int), ers m] : List Int) 0 = some (c : Int) := rfl
  rw [i1, bnd_some_eq, decide_eq_true rfl, cond_true, i0, bnd_some_eq, hw, idx_get, hz.1, bnd_some_eq, bnd_some_eq, decide_eq_false (fun h => hne (by rw [hz.2, h]))]
  simp only [Out.elim, cond_false]
  rw [w64_nat1 (by omega)]
theorem er_idx (T : Tiny m s q) (E : Edw m L R) : F_slices_Index_Sint64_int64 (Ed m L R) (ers m) = some ((L.length + 1 : Nat) : Int) := by
 have hlen := Ed_len m L R
 have el := E.hl
 have hE : Ed m L R = ((m.Symbols + m.States) :: L) ++ (ers m :: (R ++ [m.Symbols + m.States])) := rfl
 rw [hE, idx_first (by rw [← hE]; omega) (ers_no T E).1]
 rfl
theorem impl_right (T : Tiny m s q) (hL : (haltL m s).length ≤ 60) {c : Int} {R' : List Int} (E : Edw m L (c :: R')) : F_impl_erasing (haltL m s) ((ownL m s).length : Int) (Ed m L (c :: R')) (ers m) = some (⟨((bas m s + 2 * c.toNat : Nat) : Int), ((L.length + 1 : Nat) : Int), Ed m L R'⟩, true) := by
 have hc := E.sr c (List.mem_cons_self ..)
 have hs := T.hs
 have hlen := halt_len (m := m) (s := s)
 have el := E.hl
 have hE := Ed_len m L (c :: R')
 have hb : (ownL m s).length ≤ bas m s := by unfold bas; omega
 have hd : (Ed m L (c :: R')).drop (L.length + 1) = ers m :: ((c :: R') ++ [m.Symbols + m.States]) := by
  have hE : Ed m L (c :: R') = ((m.Symbols + m.States) :: L) ++ (ers m :: ((c :: R') ++ [m.Symbols + m.States])) := rfl
  rw [hE, List.drop_left' (by rw [List.length_cons])]
 have hlast : F_impl_erasing_L1 (haltL m s) (Ed m L (c :: R')) (ers m) ((L.length + 1 : Nat) : Int) ((bas m s + 2 * c.toNat : Nat) : Int) = some (.inr (.ret (⟨((bas m s + 2 * c.toNat : Nat) : Int), ((L.length + 1 : Nat) : Int), Ed m L R'⟩, true))) := by
  simp only [F_impl_erasing_L1]
  rw [decide_eq_true (by omega), cond_true, idx_get, (halt_erase (by omega)).1, bnd_some_eq, decide_eq_false (by omega), cond_false]
  simp only
  have i0 : idx ([ers m, (c.toNat : Int)] : List Int) 0 = some (ers m) := rfl
  rw [i0, bnd_some_eq, decide_eq_false (fun h => h rfl), cond_false, decide_eq_true (by omega), cond_true, slc_from (by omega), bnd_some_eq, impl_begins _ _ (by rw [List.length_drop]; omega), bnd_some_eq, hd]
  have : decide ((ers m :: ((c :: R') ++ [m.Symbols + m.States])).take [ers m, (c.toNat : Int)].length = [ers m, (c.toNat : Int)]) = true := by
   apply decide_eq_true
   simp only [List.length_cons, List.length_nil, List.cons_append, List.take_succ_cons, List.take_zero, List.cons.injEq, and_true, true_and]
   omega
  rw [this, bnd_some_eq]
  simp only [Out.elim, cond_true, List.length_cons, List.length_nil]
  rw [impl_put _ _ _ _ (by omega) (by simp) (by rw [hE, List.length_cons]; omega), bnd_some_eq, put_r]
 unfold F_impl_erasing
 rw [er_idx T E, bnd_some_eq, skip_run (bas m s + 2 * c.toNat - (ownL m s).length) (ownL m s).length (fun j hj1 hj2 => er1 T E hL hj1 (by omega) (fun c' hc' hj => by
  simp only [List.cons_append, List.head?_cons, ne_eq, Option.some.injEq]
  omega)), show (ownL m s).length + (bas m s + 2 * c.toNat - (ownL m s).length) = bas m s + 2 * c.toNat by omega, run_done hlast, bnd_some_eq]
 rfl
theorem er1_all (T : Tiny m s q) (hL : (haltL m s).length ≤ 60) (E : Edw m L []) : run (F_impl_erasing_L1 (haltL m s) (Ed m L []) (ers m) ((L.length + 1 : Nat) : Int)) ((ownL m s).length : Int) = some (.brk ((haltL m s).length : Int)) := by
 have hq := T.hq
 have hs := T.hs
 have b2 := T.b2
 have hlen := halt_len (m := m) (s := s)
 have hb : (ownL m s).length ≤ (haltL m s).length := by rw [hlen]; unfold bas; omega
 rw [skip_run ((haltL m s).length - (ownL m s).length) (ownL m s).length (fun j hj1 hj2 => er1 T E hL hj1 (by omega) (fun c' hc' hj => by
  simp only [List.nil_append, List.head?_cons, ne_eq, Option.some.injEq]
  omega)), show (ownL m s).length + ((haltL m s).length - (ownL m s).length) = (haltL m s).length by omega]
 refine run_done ?_
 simp only [F_impl_erasing_L1]
 rw [decide_eq_false (by omega), cond_false]
theorem impl_left (T : Tiny m s q) (hL : (haltL m s).length ≤ 60) {c : Int} {L' : List Int} (E : Edw m (L' ++ [c]) []) : F_impl_erasing (haltL m s) ((ownL m s).length : Int) (Ed m (L' ++ [c]) []) (ers m) = some (⟨((bas m s + 2 * c.toNat + 1 : Nat) : Int), ((L'.length + 1 : Nat) : Int), Ed m L' []⟩, true) := by
 have hc := E.sl c (by simp)
 have hs := T.hs
 have hlen := halt_len (m := m) (s := s)
 have el := E.hl
 have hE := Ed_len m (L' ++ [c]) []
 have hll : (L' ++ [c]).length = L'.length + 1 := by rw [List.length_append, List.length_singleton]
 have hb : (ownL m s).length ≤ bas m s := by unfold bas; omega
 have el2 : ((m.Symbols + m.States) :: (L' ++ [c])).getLast? = some c := by rw [← List.cons_append, List.getLast?_concat]
 have hw : w64 ((((L' ++ [c]).length + 1 : Nat) : Int) - 1) = ((L'.length + 1 : Nat) : Int) := by rw [w64_in (by omega) (by omega)]; omega
 have hget : (Ed m (L' ++ [c]) [])[L'.length + 1]? = some c := by
  have hE : Ed m (L' ++ [c]) [] = ((m.Symbols + m.States) :: L') ++ (c :: ers m :: ([] ++ [m.Symbols + m.States])) := by unfold Ed; simp
  rw [hE, List.getElem?_append_right (by rw [List.length_cons]; omega), List.length_cons, Nat.sub_self]
  rfl
 have hlast : F_impl_erasing_L2 (haltL m s) (Ed m (L' ++ [c]) []) (ers m) (((L' ++ [c]).length + 1 : Nat) : Int) ((bas m s + 2 * c.toNat + 1 : Nat) : Int) = some (.inr (.ret (⟨((bas m s + 2 * c.toNat + 1 : Nat) : Int), ((L'.length + 1 : Nat) : Int), Ed m L' []⟩, true))) := by
  simp only [F_impl_erasing_L2]
  rw [decide_eq_true (by omega), cond_true, decide_eq_true (by omega), cond_true, idx_get, (halt_erase (by omega)).2, bnd_some_eq]
  simp only
  have i1 : idx ([(c.toNat : Int), ers m] : List Int) 1 = some (ers m) := rfl
  have i0 : idx ([(c.toNat : Int), ers m] : List Int) 0 = some (c.toNat : Int) := rfl
  rw [i1, bnd_some_eq, decide_eq_true rfl, cond_true, i0, bnd_some_eq, hw, idx_get, hget, bnd_some_eq, bnd_some_eq, decide_eq_true (by omega)]
  simp only [Out.elim, cond_true]
  rw [show (2 : Int) = ((2 : Nat) : Int) from rfl, impl_put _ _ _ _ (by omega) (by simp) (by rw [hE, hll]; simp), bnd_some_eq, put_l]
 unfold F_impl_erasing
 rw [er_idx T E, bnd_some_eq, er1_all T hL E, bnd_some_eq]
 simp only [Out.elim]
 rw [skip_run (bas m s + 2 * c.toNat + 1 - (ownL m s).length) (ownL m s).length (fun j hj1 hj2 => er2 T E hL hj1 (by omega) (fun c' hc' hj => by
  rw [el2, ne_eq, Option.some.injEq]
  omega)), show (ownL m s).length + (bas m s + 2 * c.toNat + 1 - (ownL m s).length) = bas m s + 2 * c.toNat + 1 by omega, run_done hlast, bnd_some_eq]
 rfl
theorem impl_done (T : Tiny m s q) (hL : (haltL m s).length ≤ 60) (E : Edw m [] []) : F_impl_erasing (haltL m s) ((ownL m s).length : Int) (Ed m [] []) (ers m) = some (⟨0, 0, []⟩, false) := by
 have hq := T.hq
 have hs := T.hs
 have b2 := T.b2
 have hlen := halt_len (m := m) (s := s)
 have hb : (ownL m s).length ≤ (haltL m s).length := by rw [hlen]; unfold bas; omega
 unfold F_impl_erasing
 rw [er_idx T E, bnd_some_eq, er1_all T hL E, bnd_some_eq]
 simp only [Out.elim]
 rw [skip_run ((haltL m s).length - (ownL m s).length) (ownL m s).length (fun j hj1 hj2 => er2 T E hL hj1 (by omega) (fun c' hc' hj => by
  simp only [List.getLast?_singleton, ne_eq, Option.some.injEq]
  omega)), show (ownL m s).length + ((haltL m s).length - (ownL m s).length) = (haltL m s).length by omega]
 rw [run_done (x := .brk ((haltL m s).length : Int)) (by
  simp only [F_impl_erasing_L2]
  rw [decide_eq_false (by omega), cond_false]), bnd_some_eq]
 rfl
def rgt (b n : Nat) (R : List Int) : List (List Int) := R.map fun c => [((b + 2 * c.toNat : Nat) : Int), (n : Int)]
def lft (b : Nat) : List Int → List (List Int)
 | [] => []
 | c :: l => [((b + 2 * c.toNat + 1 : Nat) : Int), ((l.length + 1 : Nat) : Int)] :: lft b l
theorem lft_len (b : Nat) : ∀ l, (lft b l).length = l.length
 | [] => rfl
 | c :: l => by unfold lft; rw [List.length_cons, lft_len b l, List.length_cons]
theorem rgt_len (b n : Nat) (R : List Int) : (rgt b n R).length = R.length := by unfold rgt; rw [List.length_map]
def fin100 (rows : List (List Int)) : List (List Int) × Int := if 100 < rows.length then ([], 5) else (rows, 0)
theorem short_fin (rows : List (List Int)) : F_impl_shortDerivation rows = some (fin100 rows) := by
 unfold F_impl_shortDerivation fin100
 by_cases h : 100 < rows.length
 ·rw [decide_eq_true (by omega), cond_true, if_pos h]
 ·rw [decide_eq_false (by omega), cond_false, if_neg h]
variable {own : Int} {x14 : Galphabet} {k6 k14 : Int}
theorem impl_lefts (T : Tiny m s q) (hL : (haltL m s).length ≤ 60) : ∀ (n : Nat) (L : List Int) (rows : List (List Int)), L.length = n → Edw m L [] → rows.length + n ≤ 1000000 →
  run (F_impl_HaltDerivation_L2 (haltL m s, ((ownL m s).length : Int), k6) (x14, ers m, k14)) (rows, Ed m L []) = some (.ret (fin100 (rows ++ lft (bas m s) L.reverse)))
 | 0, L, rows, hn, E, _ => by
  obtain rfl := List.eq_nil_of_length_eq_zero hn
  refine run_done ?_
  simp only [F_impl_HaltDerivation_L2]
  rw [impl_done T hL E, bnd_some_eq]
  simp only [Bool.not_false, cond_true]
  rw [short_fin, bnd_some_eq]
  simp [lft]
 | n + 1, L, rows, hn, E, hl => by
  rcases snoc_cases L with rfl | ⟨L', c, rfl⟩
  ·simp at hn
  ·have hb : F_impl_HaltDerivation_L2 (haltL m s, ((ownL m s).length : Int), k6) (x14, ers m, k14) (rows, Ed m (L' ++ [c]) []) = some (.inl (rows ++ [[((bas m s + 2 * c.toNat + 1 : Nat) : Int), ((L'.length + 1 : Nat) : Int)]], Ed m L' [])) := by
    simp only [F_impl_HaltDerivation_L2]
    rw [impl_left T hL E, bnd_some_eq]
    simp only [Bool.not_true, cond_false]
    rw [app_ok (by simp; omega), bnd_some_eq]
   rw [run_next hb, impl_lefts T hL n L' _ (by simpa using hn) E.initl (by simp; omega)]
   congr 2
   simp [lft]
theorem impl_all (T : Tiny m s q) (hL : (haltL m s).length ≤ 60) : ∀ (R : List Int) (rows : List (List Int)), Edw m L R → rows.length + R.length + L.length ≤ 1000000 →
  run (F_impl_HaltDerivation_L2 (haltL m s, ((ownL m s).length : Int), k6) (x14, ers m, k14)) (rows, Ed m L R) = some (.ret (fin100 (rows ++ rgt (bas m s) (L.length + 1) R ++ lft (bas m s) L.reverse)))
 | [], rows, E, hl => by
  rw [impl_lefts T hL L.length L rows rfl E (by simp at hl; omega)]
  simp [rgt]
 | c :: R', rows, E, hl => by
  rw [List.length_cons] at hl
  have hb : F_impl_HaltDerivation_L2 (haltL m s, ((ownL m s).length : Int), k6) (x14, ers m, k14) (rows, Ed m L (c :: R')) = some (.inl (rows ++ [[((bas m s + 2 * c.toNat : Nat) : Int), ((L.length + 1 : Nat) : Int)]], Ed m L R')) := by
   simp only [F_impl_HaltDerivation_L2]
   rw [impl_right T hL E, bnd_some_eq]
   simp only [Bool.not_true, cond_false]
   rw [app_ok (by simp; omega), bnd_some_eq]
  rw [run_next hb, impl_all T hL R' _ E.tailr (by simp; omega)]
  congr 2
  simp [rgt]
variable {ok14 : Bool}
end
end Go.Fn
namespace Go.Fn
open Go Go.Tc
section
variable {m : GMachine} {s q : Nat} {X : List Int} {p : Int} {Y : List Int}
def cfgW (X : List Int) (p : Int) (Y : List Int) : GConfig := ⟨p, trimL X.reverse, trimL Y⟩
def rmB (X Y : List Int) : Bool := decide ((trimL X.reverse).length ≤ 200) && decide ((trimL Y).length ≤ 200)
theorem cfg_roomy (X Y : List Int) (p : Int) : F_impl_roomy (cfgW X p Y) = some (rmB X Y) := by
 unfold F_impl_roomy rmB cfgW
 by_cases h : (trimL X.reverse).length ≤ 200
 ·rw [decide_eq_true (by simp only; omega), cond_true, decide_eq_true h, Bool.true_and]
  congr 1
  rw [decide_eq_decide]
  simp only
  omega
 ·rw [decide_eq_false (by simp only; omega), cond_false, decide_eq_false h, Bool.false_and]
theorem Wd_get_last : (Wd m X p Y)[X.length + Y.length + 2]? = some (m.Symbols + m.States) := by
 unfold Wd
 rw [show X.length + Y.length + 2 = (X.length + (Y.length + 1)) + 1 by omega, List.getElem?_cons_succ, List.getElem?_append_right (by omega), show X.length + (Y.length + 1) - X.length = Y.length + 1 by omega, List.getElem?_cons_succ, List.getElem?_append_right (Nat.le_refl _), Nat.sub_self]
 rfl
theorem Wd_mid : ((Wd m X p Y).take (X.length + Y.length + 2)).drop 1 = X ++ ((m.Symbols + p) :: Y) := by
 have : Wd m X p Y = ((m.Symbols + m.States) :: (X ++ ((m.Symbols + p) :: Y))) ++ [m.Symbols + m.States] := by unfold Wd; simp
 rw [this, List.take_left' (by simp; omega)]
 rfl
theorem impl_cfg (T : Tiny m s q) (C : Cfw m X p Y) (hW : (Wd m X p Y).length ≤ 400) : ∃ b, F_impl_alphabet_shown ⟨m.Symbols, m.Symbols + m.States⟩ (Wd m X p Y) = some (cfgW X p Y, b) := by
 have hs := T.hs
 have hq := T.hq
 have b3 := T.b3
 have hp0 := C.p0
 have hp1 := C.p1
 have hl := Wd_len m X p Y
 have el : w64 (((Wd m X p Y).length : Int) - 1) = ((X.length + Y.length + 2 : Nat) : Int) := by rw [w64_in (by omega) (by omega)]; omega
 have i0 : idx (Wd m X p Y) 0 = some (m.Symbols + m.States) := rfl
 have sm : slc (Wd m X p Y) 1 ((X.length + Y.length + 2 : Nat) : Int) = some (X ++ ((m.Symbols + p) :: Y)) := by
  have := slc_ok (xs := Wd m X p Y) (lo := 1) (hi := X.length + Y.length + 2) (by omega) (by omega)
  rw [Wd_mid] at this
  exact this
 have hZ : (X ++ ((m.Symbols + p) :: Y)).length = X.length + Y.length + 1 := by rw [List.length_append, List.length_cons]; omega
 have hf : (X ++ ((m.Symbols + p) :: Y)).findIdx? (fun x => decide (m.Symbols ≤ x)) = some X.length := by
  have h1 : X.findIdx? (fun x => decide (m.Symbols ≤ x)) = none := by
   rw [List.findIdx?_eq_none_iff]
   intro x hx
   have := C.sx x hx
   exact decide_eq_false (by omega)
  rw [List.findIdx?_append, h1, List.findIdx?_cons, decide_eq_true (by omega)]
  simp
 have ip : idx (X ++ ((m.Symbols + p) :: Y)) (X.length : Int) = some (m.Symbols + p) := by
  rw [idx_get, List.getElem?_append_right (Nat.le_refl _), Nat.sub_self]
  rfl
 have sy : slc (X ++ ((m.Symbols + p) :: Y)) ((X.length + 1 : Nat) : Int) ((X ++ ((m.Symbols + p) :: Y)).length : Int) = some Y := by
  rw [slc_from (by omega), List.drop_append, List.drop_of_length_le (by omega), List.nil_append, show X.length + 1 - X.length = 1 by omega]
  rfl
 have hall : (Y.all fun x => inB x 0 (m.Symbols - 1)) = true := by
  rw [List.all_eq_true]
  intro x hx
  have := C.sy x hx
  exact inB_iff.2 (by omega)
 have hidx : F_slices_IndexFunc_Sint64_int64 (X ++ ((m.Symbols + p) :: Y)) (fun x_ => F_impl_alphabet_shown_1 x_ ⟨m.Symbols, m.Symbols + m.States⟩) = some (X.length : Int) := by
  have := impl_idxF (X ++ ((m.Symbols + p) :: Y)) (fun x_ => F_impl_alphabet_shown_1 x_ ⟨m.Symbols, m.Symbols + m.States⟩) (fun x => decide (m.Symbols ≤ x)) (fun x => rfl) (by omega)
  rw [hf] at this
  exact this
 unfold F_impl_alphabet_shown
 rw [el, decide_eq_false (by omega), cond_false, i0, bnd_some_eq, decide_eq_false (fun h => h rfl), cond_false, idx_get, Wd_get_last, bnd_some_eq, decide_eq_false (fun h => h rfl), cond_false, bnd_some_eq]
 simp only [Out.elim]
 rw [sm, bnd_some_eq, hidx, bnd_some_eq]
 rw [decide_eq_false (by omega), cond_false, ip, bnd_some_eq, decide_eq_false (by omega), cond_false, w64_nat1 (by omega), sy, bnd_some_eq, w64_in (n := m.Symbols - 1) (by omega) (by omega), impl_allWithin _ _ _ (by omega), hall, bnd_some_eq]
 simp only [Bool.not_true, cond_false, bnd_some_eq]
 rw [slc0 (by omega), bnd_some_eq, List.take_left, impl_reversed _ (by omega), bnd_some_eq, impl_clone' _ (by omega), bnd_some_eq, impl_trimmed _ (by rw [List.length_reverse]; omega), bnd_some_eq, impl_trimmed _ (by omega), bnd_some_eq, show m.Symbols + p - m.Symbols = p by omega, w64_in (n := p) (by omega) (by omega)]
 exact ⟨_, rfl⟩
end
end Go.Fn
namespace Go.Fn
open Go Go.Tc
section
variable {m : GMachine} {s q : Nat} {X : List Int} {p : Int} {Y : List Int}
theorem Cfw.next (T : Tiny m s q) (C : Cfw m X p Y) (hn : rl m p Y ≠ noR) : Cfw m (nxX (rl m p Y) X) (rl m p Y).Next (nxY (rl m p Y) X Y) := by
 have hs := T.hs
 have b1 := T.b1
 have hmem : rl m p Y ∈ m.Rules := by
  unfold rl at hn ⊢
  rw [List.getD_eq_getElem?_getD] at hn ⊢
  cases h : m.Rules[(p * m.Symbols + Y.headD 0).toNat]? with
  | none => rw [h] at hn; exact absurd rfl hn
  | some r => exact List.mem_of_getElem? h
 have h := T.hr _ hmem
 unfold ruleB at h
 simp only [Bool.or_eq_true, Bool.and_eq_true, decide_eq_true_eq] at h
 rcases h with h | ⟨hw, _, hx⟩
 ·exact absurd h hn
 have hw := inB_iff.1 hw
 have hx := inB_iff.1 hx
 have ht : sym m Y.tail := fun x hx => C.sy x (List.mem_of_mem_tail hx)
 refine ⟨?_, ?_, hx.1, by omega⟩
 ·unfold nxX
  by_cases h1 : (rl m p Y).Move = 1
  ·rw [if_pos h1]
   intro x hx
   rcases List.mem_append.1 hx with hx | hx
   ·exact C.sx x hx
   ·rw [List.mem_singleton] at hx
    omega
  ·rw [if_neg h1]
   exact fun x hx => C.sx x (List.dropLast_subset _ hx)
 ·unfold nxY
  by_cases h1 : (rl m p Y).Move = 1
  ·rw [if_pos h1]
   exact ht
  ·rw [if_neg h1]
   intro x hx
   rcases List.mem_cons.1 hx with hx | hx
   ·rcases snoc_cases X with h | ⟨X', z, h⟩
    ·rw [h] at hx
     have : x = 0 := hx
     omega
    ·rw [h] at hx
     have hz := C.sx z (by rw [h]; simp)
     simp at hx
     omega
   ·rcases List.mem_cons.1 hx with hx | hx
    ·omega
    ·exact ht x hx
end
end Go.Fn
namespace Go.Fn
open Go Go.Tc
theorem trimL_getD (xs : List Int) (j : Nat) : (trimL xs).getD j 0 = xs.getD j 0 := by
 obtain ⟨n, hn⟩ : ∃ n, xs.length = n := ⟨_, rfl⟩
 induction n generalizing xs with
 | zero =>
  obtain rfl := List.eq_nil_of_length_eq_zero hn
  rfl
 | succ n ih =>
  rcases snoc_cases xs with rfl | ⟨ys, y, rfl⟩
  ·simp at hn
  ·rw [trimL_snoc]
   by_cases h : y = 0
   ·rw [if_pos h, ih ys (by simpa using hn)]
    subst h
    rw [List.getD_eq_getElem?_getD, List.getD_eq_getElem?_getD, List.getElem?_append]
    split
    ·rfl
    ·rename_i h2
     rw [List.getElem?_eq_none (by omega)]
     cases hj : j - ys.length <;> simp
   ·rw [if_neg h]
theorem tail_getD (xs : List Int) (j : Nat) : xs.tail.getD j 0 = xs.getD (j + 1) 0 := by
 cases xs <;> simp
def stepC (r : GRule) (c : GConfig) : GConfig :=
 if 0 < r.Move then ⟨r.Next, trimL (r.Write :: c.Left), c.Right.tail⟩ else ⟨r.Next, c.Left.tail, trimL (c.Left.getD 0 0 :: trimL (r.Write :: c.Right.tail))⟩
theorem stepC_len (r : GRule) (c : GConfig) : (stepC r c).Left.length ≤ c.Left.length + 1 ∧ (stepC r c).Right.length ≤ c.Right.length + 2 := by
 unfold stepC
 have h1 := trimL_len (r.Write :: c.Left)
 have h2 := trimL_len (r.Write :: c.Right.tail)
 have h3 := trimL_len (c.Left.getD 0 0 :: trimL (r.Write :: c.Right.tail))
 have h4 : c.Right.tail.length ≤ c.Right.length := by simp
 have h5 : c.Left.tail.length ≤ c.Left.length := by simp
 simp only [List.length_cons] at h1 h2 h3
 split
 ·simp only
  omega
 ·simp only
  omega
theorem rowC_getD (c : GConfig) {W A i : Nat} (h : i < W) : (rowC c W A).getD i 0 = if i < A then c.Left.getD (A - 1 - i) 0 else c.Right.getD (i - A) 0 := by
 rw [List.getD_eq_getElem?_getD, List.getElem?_eq_getElem (by simpa [rowC] using h)]
 simp [rowC]
def ruleAt (m : GMachine) (c : GConfig) : GRule := m.Rules.getD (w64 ((w64 (c.State * m.Symbols)) + c.Right.getD 0 0)).toNat noR
structure CfI (s q N : Nat) (c : GConfig) : Prop where
 st : ∃ p : Nat, c.State = p ∧ p < q
 lf : ∀ j, 0 ≤ c.Left.getD j 0 ∧ c.Left.getD j 0 < s
 rt : ∀ j, 0 ≤ c.Right.getD j 0 ∧ c.Right.getD j 0 < s
 ll : c.Left.length ≤ N
 rl : c.Right.length ≤ N
theorem getD_cons_in {x : Int} {l : List Int} {s : Nat} (hx : 0 ≤ x ∧ x < s) (hl : ∀ j, 0 ≤ l.getD j 0 ∧ l.getD j 0 < s) : ∀ j, 0 ≤ (x :: l).getD j 0 ∧ (x :: l).getD j 0 < s := fun j => by
 cases j with
 | zero => exact hx
 | succ j => rw [List.getD_cons_succ]; exact hl j
theorem CfI.step {s q N : Nat} {c : GConfig} (h : CfI s q N c) {r : GRule} (h1 : 0 ≤ r.Write ∧ r.Write < s) (h2 : 0 ≤ r.Next ∧ r.Next < q) : CfI s q (N + 2) (stepC r c) := by
 have hl := stepC_len r c
 have e1 : ∀ j, 0 ≤ (trimL (r.Write :: c.Left)).getD j 0 ∧ (trimL (r.Write :: c.Left)).getD j 0 < s := fun j => by rw [trimL_getD]; exact getD_cons_in h1 h.lf j
 have e2 : ∀ j, 0 ≤ c.Right.tail.getD j 0 ∧ c.Right.tail.getD j 0 < s := fun j => by rw [tail_getD]; exact h.rt _
 have e3 : ∀ j, 0 ≤ c.Left.tail.getD j 0 ∧ c.Left.tail.getD j 0 < s := fun j => by rw [tail_getD]; exact h.lf _
 have e4 : ∀ j, 0 ≤ (trimL (c.Left.getD 0 0 :: trimL (r.Write :: c.Right.tail))).getD j 0 ∧ (trimL (c.Left.getD 0 0 :: trimL (r.Write :: c.Right.tail))).getD j 0 < s := fun j => by
  rw [trimL_getD]
  exact getD_cons_in (h.lf 0) (fun j => by rw [trimL_getD]; exact getD_cons_in h1 e2 j) j
 have := h.ll
 have := h.rl
 refine ⟨⟨r.Next.toNat, ?_, by omega⟩, ?_, ?_, by omega, by omega⟩
 ·unfold stepC
  split <;> (simp only; omega)
 ·unfold stepC
  split
  ·exact e1
  ·exact e3
 ·unfold stepC
  split
  ·exact e2
  ·exact e4
theorem CfI.row {s q N : Nat} {c : GConfig} (h : CfI s q N c) {W A i : Nat} (hi : i < W) : 0 ≤ (rowC c W A).getD i 0 ∧ (rowC c W A).getD i 0 < s := by
 rw [rowC_getD c hi]
 split
 ·exact h.lf _
 ·exact h.rt _
structure MaI (m : GMachine) (s q : Nat) : Prop where
 hs : m.Symbols = s
 hq : m.States = q
 b1 : 2 ≤ s
 b2 : s ≤ 6
 b3 : 1 ≤ q
 b4 : q ≤ 1000
 hl : m.Rules.length = q * s
 b5 : q * s ≤ 6000
 hr : ∀ r ∈ m.Rules, ruleB m.Symbols m.States r = true
theorem at_eq {m : GMachine} {s q N : Nat} (M : MaI m s q) {c : GConfig} (h : CfI s q N c) : ∃ p a : Nat, c.State = p ∧ c.Right.getD 0 0 = a ∧ p < q ∧ a < s ∧ w64 ((w64 (c.State * m.Symbols)) + c.Right.getD 0 0) = ((p * s + a : Nat) : Int) ∧ p * s + a < q * s := by
 obtain ⟨p, hp, hpq⟩ := h.st
 have h0 := h.rt 0
 have hlt := at_lt hpq (show (c.Right.getD 0 0).toNat < s by omega)
 have := M.b5
 refine ⟨p, (c.Right.getD 0 0).toNat, hp, by omega, hpq, by omega, ?_, hlt⟩
 rw [hp, M.hs, w64_mul (by omega), show c.Right.getD 0 0 = ((c.Right.getD 0 0).toNat : Int) by omega, w64_add (by omega)]
 simp
theorem ruleAt_idx {m : GMachine} {s q N : Nat} (M : MaI m s q) {c : GConfig} (h : CfI s q N c) : idx m.Rules (w64 ((w64 (c.State * m.Symbols)) + c.Right.getD 0 0)) = some (ruleAt m c) ∧ ruleAt m c ∈ m.Rules := by
 obtain ⟨p, a, hp, ha, hpq, has, e, hlt⟩ := at_eq M h
 have hlt' : p * s + a < m.Rules.length := by rw [M.hl]; exact hlt
 unfold ruleAt
 rw [e, idx_nat hlt', Int.toNat_natCast, List.getD_eq_getElem?_getD, List.getElem?_eq_getElem hlt']
 exact ⟨rfl, List.getElem_mem _⟩
theorem rule_in {m : GMachine} {s q : Nat} (M : MaI m s q) {r : GRule} (h : r ∈ m.Rules) (hn : r ≠ noR) : (0 ≤ r.Write ∧ r.Write < s) ∧ (r.Move = 1 ∨ r.Move = -1) ∧ (0 ≤ r.Next ∧ r.Next < q) := by
 have hb := M.hr r h
 unfold ruleB at hb
 rw [decide_eq_false hn, Bool.false_or, Bool.and_eq_true, Bool.and_eq_true] at hb
 have w1 := inB_iff.1 hb.1
 have w2 := inB_iff.1 hb.2.2
 have w3 := hb.2.1
 simp only [Bool.or_eq_true, decide_eq_true_eq] at w3
 have := M.hs
 have := M.hq
 exact ⟨by omega, w3, by omega⟩
theorem impl_isRule (r : GRule) : F_impl_isRule r = some (!decide (r = noR)) := rfl
theorem confB_cfi {m : GMachine} {s q : Nat} (M : MaI m s q) {c : GConfig} (h : confB m c = true) : CfI s q 200 c := by
 have hl := confB_len h
 unfold confB sideB at h
 simp only [Bool.and_eq_true, decide_eq_true_eq] at h
 have h1 := inB_iff.1 h.1
 have hs := M.hs
 have hq := M.hq
 have b1 := M.b1
 have side : ∀ xs : List Int, (xs.all fun x => inB x 0 (m.Symbols - 1)) = true → ∀ j, 0 ≤ xs.getD j 0 ∧ xs.getD j 0 < s := by
  intro xs hx j
  rw [List.getD_eq_getElem?_getD]
  cases hj : xs[j]? with
  | none => simp; omega
  | some y =>
   have := inB_iff.1 (List.all_eq_true.1 hx y (List.mem_of_getElem? hj))
   simp only [Option.getD_some]
   omega
 exact ⟨⟨c.State.toNat, by omega, by omega⟩, side _ h.2.1.1.2, side _ h.2.2.1.2, hl.1, hl.2.1⟩
theorem machB_mai {m : GMachine} (h : machB m = true) : ∃ s q, MaI m s q := by
 obtain ⟨s, q, hs, hq, b1, b2, b3, b4, hl, b5, hr⟩ := machB_nat h
 exact ⟨s, q, hs, hq, b1, b2, b3, b4, hl, b5, hr⟩
end Go.Fn
namespace Go.Fn
open Go Go.Tc
def Bytes (xs : List (Ik .u8)) : Prop := xs.length ≤ 1048576 ∧ ∀ x ∈ xs, 0 ≤ x.val ∧ x.val ≤ 255
theorem bytes_of {xs : List (Ik .u8)} (h : Wf.wf xs) (hl : xs.length ≤ 1048576) : Bytes xs := by
 refine ⟨hl, fun x hx => ?_⟩
 have := h.2 x hx
 simpa [Wf.wf, IntKind.min, IntKind.max, IntKind.signed, IntKind.bits] using this
theorem kand255 (x : Int) : 0 ≤ kand .u64 x 255 ∧ kand .u64 x 255 ≤ 255 := by
 have h : (BitVec.ofInt 64 x &&& BitVec.ofInt 64 255).toNat ≤ 255 := by
  rw [BitVec.toNat_and]
  exact Nat.and_le_right
 have e : kand .u64 x 255 = (((BitVec.ofInt 64 x &&& BitVec.ofInt 64 255).toNat : Nat) : Int) := by
  unfold kand
  show IntKind.wrap .u64 (((BitVec.ofInt 64 x &&& BitVec.ofInt 64 255).toNat : Nat) : Int) = _
  generalize (BitVec.ofInt 64 x &&& BitVec.ofInt 64 255).toNat = n at h
  simp [IntKind.wrap, IntKind.bits, IntKind.signed]
  omega
 rw [e]
 omega
structure SrcOk (s : Gl00Src) (n : Int) : Prop where
 bytes : Bytes s.code
 lo : 0 ≤ s.at_
 hi : s.at_ ≤ n
theorem src_next {s : Gl00Src} {n : Int} (h : SrcOk s n) (hn : n ≤ 1099511627776) : ∃ v a sd, F_spec_l00Src_next s = some (v, (a, sd)) ∧ 0 ≤ v ∧ v ≤ 255 ∧ SrcOk ⟨s.code, a, sd⟩ (n + 1) := by
 obtain ⟨hb, h0, h1⟩ := h
 have e : s.at_ = ((s.at_.toNat : Nat) : Int) := by omega
 have ew : w64 (s.at_ + 1) = s.at_ + 1 := w64_in (by omega) (by omega)
 unfold F_spec_l00Src_next
 rw [ew]
 by_cases hlt : s.at_.toNat < s.code.length
 ·have hv := hb.2 _ (List.getElem_mem hlt)
  rw [decide_eq_true (by omega : s.at_ < (s.code.length : Int)), cond_true, e, idx_nat hlt, bnd_some_eq, bnd_some_eq]
  simp only [Out.elim]
  rw [decide_eq_true (by omega), cond_true]
  refine ⟨_, _, _, rfl, ?_, ?_, hb, by simp only; omega, by simp only; omega⟩
  ·rw [w64_in (by omega) (by omega)]; exact hv.1
  ·rw [w64_in (by omega) (by omega)]; exact hv.2
 ·rw [decide_eq_false (by omega : ¬ s.at_ < (s.code.length : Int)), cond_false, bnd_some_eq]
  simp only [Out.elim]
  rw [decide_eq_false (by omega), cond_false]
  have hk := kand255 (Int.fdiv (wk .u64 ((wk .u64 ((wk .u64 (s.seed.val * 6364136223846793005)) + (wk .u64 0))) + 1442695040888963407)) (2 ^ min (40 : Int).toNat (IntKind.bits .u64)))
  refine ⟨_, _, _, rfl, ?_, ?_, hb, by simp only; omega, by simp only; omega⟩
  ·rw [w64_in (by omega) (by omega)]; exact hk.1
  ·rw [w64_in (by omega) (by omega)]; exact hk.2
theorem nz_src {b : Int} (h : b ≠ 0) : nz b = some () := by unfold nz; rw [if_neg h]
theorem src_pick {s : Gl00Src} {n : Int} (k : Int) (h : SrcOk s n) (hn : n ≤ 1099511627776) (hk : k ≤ 200) : ∃ v a sd, F_spec_l00Src_pick s k = some (v, (a, sd)) ∧ 0 ≤ v ∧ (v < k ∨ v = 0) ∧ SrcOk ⟨s.code, a, sd⟩ (n + 1) := by
 unfold F_spec_l00Src_pick
 by_cases h1 : k ≤ 1
 ·rw [decide_eq_true h1, cond_true]
  exact ⟨_, _, _, rfl, by omega, .inr rfl, h.bytes, h.lo, by have := h.hi; simp only; omega⟩
 ·obtain ⟨v, a, sd, e, h0, h2, h3⟩ := src_next h hn
  rw [decide_eq_false h1, cond_false, e, bnd_some_eq, decide_eq_false (by omega : ¬ 200 < k), cond_false, nz_src (by omega), bnd_some_eq]
  refine ⟨_, _, _, rfl, ?_, ?_, h3⟩
  ·simp only
   rw [Int.tmod_eq_emod_of_nonneg h0]
   exact Int.emod_nonneg _ (by omega)
  ·left
   simp only
   rw [Int.tmod_eq_emod_of_nonneg h0]
   exact Int.emod_lt_of_pos _ (by omega)
theorem src_one {s : Gl00Src} {n : Int} (k : Int) (h : SrcOk s n) (hn : n ≤ 1099511627776) (hk : k ≤ 200) : ∃ b a sd, F_spec_l00Src_one s k = some (b, (a, sd)) ∧ SrcOk ⟨s.code, a, sd⟩ (n + 1) := by
 obtain ⟨v, a, sd, e, _, _, h3⟩ := src_pick k h hn hk
 unfold F_spec_l00Src_one
 rw [e, bnd_some_eq]
 exact ⟨_, _, _, rfl, h3⟩
def Let (k : Int) (w : List Int) : Prop := ∀ x ∈ w, 0 ≤ x ∧ x < k
theorem Let.mono {k l : Int} {w : List Int} (h : Let k w) (hkl : k ≤ l) : Let l w := fun x hx => ⟨(h x hx).1, by have := (h x hx).2; omega⟩
theorem SrcOk.mono {s : Gl00Src} {n n' : Int} (h : SrcOk s n) (hn : n ≤ n') : SrcOk s n' := ⟨h.bytes, h.lo, by have := h.hi; omega⟩
end Go.Fn
namespace Go.Fn
open Go Go.Tc
def OLe {R : Type} (f g : Option R) : Prop := ∀ r, f = some r → g = some r
theorem OLe.refl {R : Type} (f : Option R) : OLe f f := fun _ h => h
theorem OLe.bnd {α R : Type} {m m' : Option α} {k k' : α → Option R} (h : OLe m m') (hk : ∀ x, OLe (k x) (k' x)) : OLe (Tc.bnd m k) (Tc.bnd m' k') := by
 intro r hr
 obtain ⟨x, h1, h2⟩ := bnd_some hr
 rw [h x h1, bnd_some_eq]
 exact hk x r h2
theorem OLe.cond {R : Type} (b : Bool) {x x' y y' : Option R} (h1 : OLe x x') (h2 : OLe y y') : OLe (cond b x y) (cond b x' y') := by
 cases b
 ·exact h2
 ·exact h1
theorem OLe.elim {S R T : Type} (o : Out S R) {f f' : S → Option T} {g g' : R → Option T} (h1 : ∀ s, OLe (f s) (f' s)) (h2 : ∀ s, OLe (g s) (g' s)) : OLe (Out.elim f g o) (Out.elim f' g' o) := by
 cases o
 ·exact h1 _
 ·exact h2 _
theorem iterN_le {S X : Type} {b b' : S → Option (S ⊕ X)} (h : ∀ s, OLe (b s) (b' s)) : ∀ (k : Nat) (s : S) (x : X), iterN b k s = some x → iterN b' k s = some x
 | 0, _, _, hk => by simp [iterN] at hk
 | k + 1, s, x, hk => by
  simp only [iterN] at hk ⊢
  cases hb : b s with
  | none => rw [hb] at hk; cases hk
  | some q =>
   rw [hb] at hk
   rw [h s q hb]
   cases q with
   | inl s' => exact iterN_le h k s' x hk
   | inr y => exact hk
theorem OLe.run {S X : Type} {b b' : S → Option (S ⊕ X)} {s : S} (h : ∀ s, OLe (b s) (b' s)) : OLe (Tc.run b s) (Tc.run b' s) := by
 intro x hx
 obtain ⟨k, hk⟩ := run_iff.1 hx
 exact run_iff.2 ⟨k, iterN_le h k s x hk⟩
theorem Mono.of {α R : Type} {step : (α → Option R) → α → Option R} (h : ∀ f g : α → Option R, (∀ a, OLe (f a) (g a)) → ∀ a, OLe (step f a) (step g a)) : Mono step := fun f g hfg a => h f g hfg a
end Go.Fn
namespace Go.Fn
open Go Go.Tc
theorem noR_ruleB (s q : Int) : ruleB s q noR = true := by
 unfold ruleB
 rw [decide_eq_true rfl, Bool.true_or]
theorem drawSize_run {c : List (Ik .u8)} {p0 : Gl00Src} (hc : p0.code = c) {p1 p2 : Int} (h1 : 2 ≤ p1 ∧ p1 ≤ 6) (h2 : 1 ≤ p2 ∧ p2 ≤ 100) : ∀ (m : Nat) (a : Int) (sd : Ik .u64) (out : List GRule) (n : Int), SrcOk ⟨c, a, sd⟩ n → n + 4 * m ≤ 1099511627776 → m ≤ 1000 → out.length + m ≤ 1000 → (∀ r ∈ out, ruleB p1 p2 r = true) →
  ∃ rs a' sd', run (F_spec_l05DrawSize_L1 p0 p1 p2) (a, sd, out, (m : Int)) = some (.brk (a', sd', out ++ rs, 0)) ∧ rs.length = m ∧ (∀ r ∈ out ++ rs, ruleB p1 p2 r = true) ∧ SrcOk ⟨c, a', sd'⟩ (n + 4 * m) := by
 intro m
 induction m with
 | zero =>
  intro a sd out n h _ _ _ hl
  refine ⟨[], a, sd, run_done ?_, rfl, by rwa [List.append_nil], by simpa using h⟩
  simp only [F_spec_l05DrawSize_L1]
  rw [decide_eq_false (by omega), cond_false, List.append_nil]
  rfl
 | succ m ih =>
  intro a sd out n h hn hm ho hl
  obtain ⟨v, a1, sd1, e1, v0, v1, k1⟩ := src_pick p1 h (by omega) (by omega)
  obtain ⟨u, a2, sd2, e2, u0, u1, k2⟩ := src_pick 2 k1 (by omega) (by omega)
  obtain ⟨t, a3, sd3, e3, t0, t1, k3⟩ := src_pick p2 k2 (by omega) (by omega)
  obtain ⟨b, a4, sd4, e4, k4⟩ := src_one 7 k3 (by omega) (by omega)
  simp only at e2 e3 e4 k4
  have step : ∀ r : GRule, ruleB p1 p2 r = true → F_spec_l05DrawSize_L1 p0 p1 p2 (a, sd, out, ((m + 1 : Nat) : Int)) = some (.inl (a4, sd4, out ++ [r], (m : Int))) → ∃ rs a' sd', run (F_spec_l05DrawSize_L1 p0 p1 p2) (a, sd, out, ((m + 1 : Nat) : Int)) = some (.brk (a', sd', out ++ rs, 0)) ∧ rs.length = m + 1 ∧ (∀ r ∈ out ++ rs, ruleB p1 p2 r = true) ∧ SrcOk ⟨c, a', sd'⟩ (n + 4 * ((m + 1 : Nat) : Int)) := by
   intro r hr hb
   obtain ⟨rs, a', sd', e5, l1, l2, l3⟩ := ih a4 sd4 (out ++ [r]) (n + 1 + 1 + 1 + 1) k4 (by omega) (by omega) (by simp; omega) (by
    intro x hx
    rcases List.mem_append.1 hx with hx | hx
    ·exact hl x hx
    ·rw [List.mem_singleton.1 hx]; exact hr)
   refine ⟨r :: rs, a', sd', ?_, by simp [l1], by simpa using l2, l3.mono (by omega)⟩
   rw [run_next hb, e5]
   simp
  have hd : ((m + 1 : Nat) : Int) - 1 = (m : Int) := by omega
  cases b with
  | true =>
   refine step noR (noR_ruleB _ _) ?_
   simp only [F_spec_l05DrawSize_L1]
   rw [decide_eq_true (by omega), cond_true, hc, e1, bnd_some_eq, e2, bnd_some_eq, e3, bnd_some_eq, e4, bnd_some_eq, cond_true, show F_spec_l05None = some noR from rfl, bnd_some_eq, app_ok (by simp; omega), bnd_some_eq, w64_in (by omega) (by omega), hd]
  | false =>
   refine step ⟨v, 2 * u - 1, t⟩ ?_ ?_
   ·unfold ruleB
    have g1 : inB v 0 (p1 - 1) = true := inB_iff.2 (by omega)
    have g2 : inB t 0 (p2 - 1) = true := inB_iff.2 (by omega)
    simp only
    rw [g1, g2, Bool.true_and, Bool.and_true]
    rcases (show u = 0 ∨ u = 1 by omega) with rfl | rfl
    ·rw [show decide ((2 * 0 - 1 : Int) = -1) = true from rfl, Bool.or_true, Bool.or_true]
    ·rw [show decide ((2 * 1 - 1 : Int) = 1) = true from rfl, Bool.true_or, Bool.or_true]
   ·simp only [F_spec_l05DrawSize_L1]
    rw [decide_eq_true (by omega), cond_true, hc, e1, bnd_some_eq, e2, bnd_some_eq, e3, bnd_some_eq, e4, bnd_some_eq, cond_false]
    simp only
    rw [w64_in (n := 2 * u) (by omega) (by omega), w64_in (n := 2 * u - 1) (by omega) (by omega), app_ok (by simp; omega), bnd_some_eq, w64_in (by omega) (by omega), hd]
theorem sideB_trim {s : Int} : ∀ (n : Nat) (xs : List Int), xs.length = n → n ≤ 200 → Let s xs → sideB s (trimL xs) = true := by
 intro n
 induction n with
 | zero =>
  intro xs hn _ _
  obtain rfl := List.eq_nil_of_length_eq_zero hn
  rfl
 | succ n ih =>
  intro xs hn h2 hl
  rcases snoc_cases xs with rfl | ⟨ys, y, rfl⟩
  ·simp at hn
  ·rw [trimL_snoc]
   by_cases h : y = 0
   ·rw [if_pos h]
    exact ih ys (by simpa using hn) (by omega) (fun x hx => hl x (List.mem_append_left _ hx))
   ·rw [if_neg h]
    unfold sideB
    rw [decide_eq_true (by omega), Bool.true_and, Bool.and_eq_true]
    refine ⟨List.all_eq_true.2 fun x hx => inB_iff.2 ?_, ?_⟩
    ·have := hl x hx
     omega
    ·rw [decide_eq_true (show (ys ++ [y]).getLastD 0 ≠ 0 by simpa using h), Bool.or_true]
end Go.Fn
namespace Go.Fn
open Go Go.Tc
def rnr (m : GMachine) (c : GConfig) : Grunner := ⟨m.Symbols, m.States, m.Rules, c.State, c.Left.reverse, c.Right.reverse⟩
def Tm (xs : List Int) : Prop := trimL xs = xs
theorem trimL_idem : ∀ (n : Nat) (xs : List Int), xs.length = n → trimL (trimL xs) = trimL xs := by
 intro n
 induction n with
 | zero =>
  intro xs hn
  obtain rfl := List.eq_nil_of_length_eq_zero hn
  rfl
 | succ n ih =>
  intro xs hn
  rcases snoc_cases xs with rfl | ⟨ys, y, rfl⟩
  ·simp at hn
  ·rw [trimL_snoc]
   by_cases h : y = 0
   ·rw [if_pos h]
    exact ih ys (by simpa using hn)
   ·rw [if_neg h, trimL_snoc, if_neg h]
theorem Tm.trim (xs : List Int) : Tm (trimL xs) := trimL_idem _ xs rfl
theorem Tm.nil : Tm [] := rfl
theorem Tm.of_side {s : Int} {xs : List Int} (h : sideB s xs = true) : Tm xs := by
 rcases snoc_cases xs with rfl | ⟨ys, y, rfl⟩
 ·rfl
 ·unfold sideB at h
  simp only [Bool.and_eq_true, Bool.or_eq_true, decide_eq_true_eq] at h
  have h0 : y ≠ 0 := by
   have := h.2
   simpa using this
  unfold Tm
  rw [trimL_snoc, if_neg h0]
theorem Tm.last {xs : List Int} (h : Tm xs) : (decide (xs.length = 0) || decide (xs.getLastD 0 ≠ 0)) = true := by
 rcases snoc_cases xs with rfl | ⟨ys, y, rfl⟩
 ·rfl
 ·unfold Tm at h
  rw [trimL_snoc] at h
  by_cases h0 : y = 0
  ·rw [if_pos h0] at h
   have := trimL_len ys
   rw [h] at this
   simp at this
   omega
  ·simp [h0]
theorem Tm.cons {xs : List Int} (h : Tm xs) (x : Int) : trimL (x :: xs) = if x = 0 ∧ xs = [] then [] else x :: xs := by
 rcases snoc_cases xs with rfl | ⟨ys, y, rfl⟩
 ·have := trimL_snoc [] x
  rw [List.nil_append] at this
  rw [this]
  by_cases h0 : x = 0
  ·rw [if_pos h0, if_pos ⟨h0, rfl⟩]; rfl
  ·rw [if_neg h0, if_neg (fun e => h0 e.1)]
 ·have h1 := h.last
  have h0 : y ≠ 0 := by simpa using h1
  rw [← List.cons_append, trimL_snoc, if_neg h0, if_neg (fun e => by simp at e)]
theorem Tm.tail {xs : List Int} (h : Tm xs) : Tm xs.tail := by
 cases xs with
 | nil => rfl
 | cons x l =>
  rcases snoc_cases l with rfl | ⟨ys, y, rfl⟩
  ·rfl
  ·unfold Tm at h
   rw [← List.cons_append, trimL_snoc] at h
   have h0 : y ≠ 0 := by
    intro e
    rw [if_pos e] at h
    have := trimL_len (x :: ys)
    rw [h] at this
    simp at this
    omega
   show trimL (ys ++ [y]) = ys ++ [y]
   rw [trimL_snoc, if_neg h0]
theorem impl_nearest (xs : List Int) (h : xs.length ≤ 1048576) : F_impl_nearest xs.reverse = some (xs.getD 0 0) := by
 unfold F_impl_nearest
 cases xs with
 | nil => rfl
 | cons x l =>
  rw [List.reverse_cons, idx_snoc _ _ (by simp at h ⊢; omega), decide_eq_false (by simp; omega), cond_false]
  rfl
theorem impl_popR (xs : List Int) (h : xs.length ≤ 1048576) : slc xs.reverse 0 (if (w64 ((xs.reverse.length : Int) - 1)) > 0 then (w64 ((xs.reverse.length : Int) - 1)) else 0) = some xs.tail.reverse := by
 cases xs with
 | nil => rfl
 | cons x l =>
  have hl : l.length < 1048576 := by simp at h; omega
  have e : w64 (((x :: l).reverse.length : Int) - 1) = (l.length : Int) := by
   rw [List.length_reverse, List.length_cons, w64_in (by omega) (by omega)]
   omega
  rw [e]
  have e2 : (if (l.length : Int) > 0 then (l.length : Int) else 0) = ((l.length : Nat) : Int) := by
   split <;> omega
  rw [e2, slc0 (by simp), List.reverse_cons]
  congr 1
  rw [List.take_left' (by simp)]
  rfl
def pushR (xs : List Int) (x : Int) : List Int := if x = 0 ∧ xs = [] then [] else x :: xs
theorem impl_ruleR {m : GMachine} {s q N : Nat} (M : MaI m s q) {c : GConfig} (h : CfI s q N c) (hN : N ≤ 1000) : F_impl_runner_rule (rnr m c) = some (ruleAt m c) := by
 have hr := h.rl
 unfold F_impl_runner_rule F_impl_runner_at F_impl_runner_symbol rnr
 simp only
 rw [impl_nearest _ (by omega)]
 simp only [bnd_some_eq]
 rw [(ruleAt_idx M h).1, bnd_some_eq]
theorem impl_haltsR {m : GMachine} {s q N : Nat} (M : MaI m s q) {c : GConfig} (h : CfI s q N c) (hN : N ≤ 1000) : F_impl_runner_halts (rnr m c) = some (decide (ruleAt m c = noR)) := by
 unfold F_impl_runner_halts
 rw [impl_ruleR M h hN, bnd_some_eq, impl_isRule, bnd_some_eq, Bool.not_not]
theorem impl_configR (m : GMachine) (c : GConfig) (h1 : c.Left.length ≤ 1048576) (h2 : c.Right.length ≤ 1048576) : F_impl_runner_config (rnr m c) = some c := by
 unfold F_impl_runner_config rnr
 simp only
 rw [impl_reversed _ (by simpa using h1), impl_reversed _ (by simpa using h2)]
 simp only [bnd_some_eq, List.reverse_reverse]
def small (c : GConfig) : Bool := decide (c.Left.length ≤ 200) && decide (c.Right.length ≤ 200)
theorem impl_stepR {m : GMachine} {s q N : Nat} (M : MaI m s q) {c : GConfig} (h : CfI s q N c) (hN : N ≤ 1000) (hL : Tm c.Left) (hR : Tm c.Right) :
  F_impl_runner_step (rnr m c) = some (small (stepC (ruleAt m c) c), ((stepC (ruleAt m c) c).State, (stepC (ruleAt m c) c).Left.reverse, (stepC (ruleAt m c) c).Right.reverse)) := by
 have hl := h.ll
 have hr := h.rl
 have ht : c.Right.tail.length ≤ c.Right.length := by simp
 have pushE : ∀ (xs : List Int) (x : Int), xs.length ≤ 2000 → (cond (decide (x = 0)) (cond (decide ((xs.reverse.length : Int) = 0)) (some xs.reverse) (app xs.reverse [x])) (app xs.reverse [x])) = some (pushR xs x).reverse := by
  intro xs x hx
  unfold pushR
  rw [app_ok (by simp; omega)]
  by_cases h0 : x = 0
  ·rw [decide_eq_true h0, cond_true]
   cases xs with
   | nil => rw [if_pos ⟨h0, rfl⟩]; rfl
   | cons y l =>
    rw [decide_eq_false (by simp; omega), cond_false, if_neg (fun e => by simp at e), List.reverse_cons]
    simp
  ·rw [decide_eq_false h0, cond_false, if_neg (fun e => h0 e.1), List.reverse_cons]
 unfold F_impl_runner_step
 rw [impl_ruleR M h hN, bnd_some_eq]
 generalize ruleAt m c = r
 show bnd (slc c.Right.reverse 0 (if (w64 ((c.Right.reverse.length : Int) - 1)) > 0 then (w64 ((c.Right.reverse.length : Int) - 1)) else 0)) _ = _
 rw [impl_popR _ (by omega), bnd_some_eq]
 unfold rnr stepC
 simp only
 by_cases hm : 0 < r.Move
 ·rw [decide_eq_true hm, cond_true, if_pos hm, hL.cons]
  have hp := pushE c.Left r.Write (by omega)
  unfold pushR at hp
  generalize (if r.Write = 0 ∧ c.Left = [] then ([] : List Int) else r.Write :: c.Left) = L' at hp
  have e : (cond (decide (r.Write = 0)) (cond (decide ((c.Left.reverse.length : Int) = 0)) (some (.brk (c.Left.reverse, c.Right.tail.reverse))) (bnd (app c.Left.reverse ([r.Write] : List Int)) fun z19 => some (.brk (z19, c.Right.tail.reverse)))) (bnd (app c.Left.reverse ([r.Write] : List Int)) fun z23 => some (.brk (z23, c.Right.tail.reverse))) : Option (Out ((List Int) × (List Int)) ((Bool) × (Int × (List Int) × (List Int))))) = some (.brk (L'.reverse, c.Right.tail.reverse)) := by
   have hp' := congrArg (fun o => bnd o fun z => (some (Out.brk (z, c.Right.tail.reverse)) : Option (Out ((List Int) × (List Int)) ((Bool) × (Int × (List Int) × (List Int)))))) hp
   rw [bnd_some_eq] at hp'
   rw [← hp']
   cases decide (r.Write = 0)
   ·rfl
   ·cases decide ((c.Left.reverse.length : Int) = 0) <;> rfl
  rw [e, bnd_some_eq]
  simp only [Out.elim, List.length_reverse, small]
  by_cases g1 : L'.length ≤ 200
  ·rw [decide_eq_true (by omega), cond_true, decide_eq_true g1, Bool.true_and]
   congr 2
   rw [decide_eq_decide]
   omega
  ·rw [decide_eq_false (by omega), cond_false, decide_eq_false g1, Bool.false_and]
 ·rw [decide_eq_false hm, cond_false, if_neg hm]
  have h1 := pushE c.Right.tail r.Write (by omega)
  have k1 := hR.tail.cons r.Write
  have t1 : Tm (trimL (r.Write :: c.Right.tail)) := Tm.trim _
  have k2 := t1.cons (c.Left.getD 0 0)
  have l1 : (trimL (r.Write :: c.Right.tail)).length ≤ c.Right.tail.length + 1 := trimL_len _
  unfold pushR at h1
  rw [← k1] at h1
  have h2 := pushE (trimL (r.Write :: c.Right.tail)) (c.Left.getD 0 0) (by omega)
  unfold pushR at h2
  rw [← k2] at h2
  generalize trimL (c.Left.getD 0 0 :: trimL (r.Write :: c.Right.tail)) = R2 at h2
  generalize trimL (r.Write :: c.Right.tail) = R1 at h1 h2
  rw [impl_nearest _ (by omega)]
  generalize c.Left.getD 0 0 = y at h2
  simp only [bnd_some_eq]
  have e : (cond (decide (r.Write = 0)) (cond (decide ((c.Right.tail.reverse.length : Int) = 0)) (cond (decide (y = 0)) (some (.brk c.Right.tail.reverse)) (bnd (app c.Right.tail.reverse ([y] : List Int)) fun z41 => some (.brk z41))) (bnd (app c.Right.tail.reverse ([r.Write] : List Int)) fun z45 => (cond (decide (y = 0)) (cond (decide ((z45.length : Int) = 0)) (some (.brk z45)) (bnd (app z45 ([y] : List Int)) fun z55 => some (.brk z55))) (bnd (app z45 ([y] : List Int)) fun z59 => some (.brk z59))))) (bnd (app c.Right.tail.reverse ([r.Write] : List Int)) fun z63 => (cond (decide (y = 0)) (cond (decide ((z63.length : Int) = 0)) (some (.brk z63)) (bnd (app z63 ([y] : List Int)) fun z73 => some (.brk z73))) (bnd (app z63 ([y] : List Int)) fun z77 => some (.brk z77)))) : Option (Out ((List Int)) ((Bool) × (Int × (List Int) × (List Int))))) = some (.brk R2.reverse) := by
   have two : ∀ z : List Int, z = R1.reverse → (cond (decide (y = 0)) (cond (decide ((z.length : Int) = 0)) (some (.brk z)) (bnd (app z ([y] : List Int)) fun z55 => some (.brk z55))) (bnd (app z ([y] : List Int)) fun z59 => some (.brk z59)) : Option (Out ((List Int)) ((Bool) × (Int × (List Int) × (List Int))))) = some (.brk R2.reverse) := by
    intro z hz
    subst hz
    have hp' := congrArg (fun o => bnd o fun z => (some (Out.brk z) : Option (Out (List Int) ((Bool) × (Int × (List Int) × (List Int)))))) h2
    rw [bnd_some_eq] at hp'
    rw [← hp']
    cases decide (y = 0)
    ·rfl
    ·cases decide ((R1.reverse.length : Int) = 0) <;> rfl
   by_cases w0 : r.Write = 0
   ·rw [decide_eq_true w0] at h1 ⊢
    simp only [cond_true] at h1 ⊢
    by_cases w1 : (c.Right.tail.reverse.length : Int) = 0
    ·rw [decide_eq_true w1] at h1 ⊢
     simp only [cond_true] at h1 ⊢
     have := two c.Right.tail.reverse (Option.some.inj h1)
     rw [decide_eq_true w1] at this
     exact this
    ·rw [decide_eq_false w1] at h1 ⊢
     simp only [cond_false] at h1 ⊢
     rw [h1, bnd_some_eq]
     exact two _ rfl
   ·rw [decide_eq_false w0] at h1 ⊢
    simp only [cond_false] at h1 ⊢
    rw [h1, bnd_some_eq]
    exact two _ rfl
  rw [e, bnd_some_eq]
  simp only [Out.elim]
  rw [impl_popR _ (by omega), bnd_some_eq, bnd_some_eq]
  simp only [Out.elim, List.length_reverse, small]
  by_cases g1 : c.Left.tail.length ≤ 200
  ·rw [decide_eq_true (by omega), cond_true, decide_eq_true g1, Bool.true_and]
   congr 2
   rw [decide_eq_decide]
   omega
  ·rw [decide_eq_false (by omega), cond_false, decide_eq_false g1, Bool.false_and]
structure CfT (s q : Nat) (c : GConfig) : Prop where
 cf : CfI s q 200 c
 lt : Tm c.Left
 rt : Tm c.Right
theorem CfT.of {m : GMachine} {s q : Nat} (M : MaI m s q) {c : GConfig} (h : confB m c = true) : CfT s q c := by
 have h' := h
 unfold confB at h'
 simp only [Bool.and_eq_true] at h'
 exact ⟨confB_cfi M h, Tm.of_side h'.2.1, Tm.of_side h'.2.2⟩
theorem Tm.step (r : GRule) {c : GConfig} (hL : Tm c.Left) (hR : Tm c.Right) : Tm (stepC r c).Left ∧ Tm (stepC r c).Right := by
 unfold stepC
 split
 ·exact ⟨Tm.trim _, hR.tail⟩
 ·exact ⟨hL.tail, Tm.trim _⟩
theorem CfT.step {m : GMachine} {s q : Nat} (M : MaI m s q) {c : GConfig} (h : CfT s q c) (hn : ruleAt m c ≠ noR) (hs : small (stepC (ruleAt m c) c) = true) : CfT s q (stepC (ruleAt m c) c) := by
 obtain ⟨w1, _, w3⟩ := rule_in M (ruleAt_idx M h.cf).2 hn
 have h1 := h.cf.step w1 w3
 have h2 := Tm.step (ruleAt m c) h.lt h.rt
 unfold small at hs
 simp only [Bool.and_eq_true, decide_eq_true_eq] at hs
 exact ⟨⟨h1.st, h1.lf, h1.rt, hs.1, hs.2⟩, h2.1, h2.2⟩
def goC (m : GMachine) : Nat → GConfig → Option (Nat × GConfig)
 | 0, c => some (0, c)
 | n + 1, c => if ruleAt m c = noR then some (0, c) else if small (stepC (ruleAt m c) c) = true then (goC m n (stepC (ruleAt m c) c)).map fun r => (r.1 + 1, r.2) else none
theorem goC_succ (m : GMachine) (n : Nat) (c : GConfig) : goC m (n + 1) c = if ruleAt m c = noR then some (0, c) else if small (stepC (ruleAt m c) c) = true then (goC m n (stepC (ruleAt m c) c)).map fun r => (r.1 + 1, r.2) else none := rfl
theorem goC_conf {m : GMachine} {s q : Nat} (M : MaI m s q) : ∀ (n : Nat) (c : GConfig), CfT s q c → ∀ r, goC m n c = some r → CfT s q r.2 ∧ r.1 ≤ n
 | 0, c, h, r, e => by
  obtain rfl := Option.some.inj e
  exact ⟨h, Nat.le_refl _⟩
 | n + 1, c, h, r, e => by
  unfold goC at e
  split at e
  ·obtain rfl := Option.some.inj e
   exact ⟨h, Nat.zero_le _⟩
  ·rename_i hn
   split at e
   ·rename_i hs
    obtain ⟨r', e', rfl⟩ := Option.map_eq_some_iff.1 e
    have := goC_conf M n _ (h.step M hn hs) r' e'
    exact ⟨this.1, by simp only; omega⟩
   ·cases e
theorem goC_halt {m : GMachine} {c : GConfig} (h : ruleAt m c = noR) : ∀ n, goC m n c = some (0, c)
 | 0 => rfl
 | n + 1 => by unfold goC; rw [if_pos h]
theorem run_goC {m : GMachine} {s q : Nat} (M : MaI m s q) (c0 : GConfig) : ∀ (n j : Nat) (c : GConfig) (d : Int), CfT s q c → n + j ≤ 1000000 →
  ∃ x, run (F_impl_runner_run_L1 (rnr m c0) ((n + j : Nat) : Int)) (c.State, c.Left.reverse, c.Right.reverse, (j : Int), d) = some x ∧
   match goC m n c with
   | none => ∃ t, x = .ret (some ((0, false, 5), t))
   | some r => x = .brk (r.2.State, r.2.Left.reverse, r.2.Right.reverse, ((j + r.1 : Nat) : Int), ((j + r.1 : Nat) : Int)) := by
 intro n
 induction n with
 | zero =>
  intro j c d _ hj
  refine ⟨_, run_done ?_, rfl⟩
  simp only [F_impl_runner_run_L1]
  rw [decide_eq_false (by omega), cond_false]
  rfl
 | succ n ih =>
  intro j c d h hj
  have hh : F_impl_runner_halts ⟨(rnr m c0).m_Symbols, (rnr m c0).m_States, (rnr m c0).m_Rules, c.State, c.Left.reverse, c.Right.reverse⟩ = some (decide (ruleAt m c = noR)) := impl_haltsR M h.cf (by omega)
  have hs : F_impl_runner_step ⟨(rnr m c0).m_Symbols, (rnr m c0).m_States, (rnr m c0).m_Rules, c.State, c.Left.reverse, c.Right.reverse⟩ = _ := impl_stepR M h.cf (by omega) h.lt h.rt
  unfold goC
  by_cases hn : ruleAt m c = noR
  ·rw [if_pos hn]
   refine ⟨_, run_done ?_, rfl⟩
   simp only [F_impl_runner_run_L1]
   rw [decide_eq_true (by omega), cond_true, hh, bnd_some_eq, decide_eq_true hn]
   rfl
  ·rw [if_neg hn]
   by_cases hk : small (stepC (ruleAt m c) c) = true
   ·rw [if_pos hk]
    have hb : F_impl_runner_run_L1 (rnr m c0) ((n + 1 + j : Nat) : Int) (c.State, c.Left.reverse, c.Right.reverse, (j : Int), d) = some (.inl ((stepC (ruleAt m c) c).State, (stepC (ruleAt m c) c).Left.reverse, (stepC (ruleAt m c) c).Right.reverse, ((j + 1 : Nat) : Int), (j : Int))) := by
     simp only [F_impl_runner_run_L1]
     rw [decide_eq_true (by omega), cond_true, hh, bnd_some_eq, decide_eq_false hn, Bool.not_false, cond_true, hs, bnd_some_eq, hk, w64_nat1 (by omega)]
     rfl
    rw [run_next hb]
    have := ih (j + 1) (stepC (ruleAt m c) c) (j : Int) (h.step M hn hk) (by omega)
    rw [show n + (j + 1) = n + 1 + j by omega] at this
    obtain ⟨x, hx, hm⟩ := this
    refine ⟨x, hx, ?_⟩
    cases hg : goC m n (stepC (ruleAt m c) c) with
    | none => rw [hg] at hm; exact hm
    | some r =>
     rw [hg] at hm
     simp only [Option.map_some] at hm ⊢
     rw [hm, show j + 1 + r.1 = j + (r.1 + 1) by omega]
   ·rw [if_neg hk]
    have hk' : small (stepC (ruleAt m c) c) = false := by simpa using hk
    refine ⟨.ret (some ((0, false, 5), ((stepC (ruleAt m c) c).State, (stepC (ruleAt m c) c).Left.reverse, (stepC (ruleAt m c) c).Right.reverse))), run_done ?_, _, rfl⟩
    simp only [F_impl_runner_run_L1]
    rw [decide_eq_true (by omega), cond_true, hh, bnd_some_eq, decide_eq_false hn, Bool.not_false, cond_true, hs, bnd_some_eq, hk']
    rfl
theorem machB_sml {m : GMachine} (h : machB m = true) : Sml m := by
 obtain ⟨s, q, M⟩ := machB_mai h
 have h1 := M.hl
 have h2 := M.b5
 exact ⟨by omega, fun _ _ => trivial⟩
theorem confB_sml {m : GMachine} {c : GConfig} (h : confB m c = true) : Sml c := by
 have := confB_len h
 exact ⟨⟨by omega, fun _ _ => trivial⟩, ⟨by omega, fun _ _ => trivial⟩⟩
theorem impl_runnerOf {m : GMachine} {c : GConfig} (h : confB m c = true) : F_impl_runnerOf m c = some (m.Symbols, m.States, m.Rules, c.State, c.Left.reverse, c.Right.reverse) := by
 have := confB_len h
 unfold F_impl_runnerOf
 rw [impl_reversed _ (by omega), impl_reversed _ (by omega)]
 rfl
theorem impl_run {m : GMachine} (hm : machB m = true) {c : GConfig} (hc : confB m c = true) {n : Nat} (h1 : 1 ≤ n) (h2 : n ≤ 20000) :
  F_impl_RunMachine m c (n : Int) = some (match goC m n c with
   | none => (⟨0, [], []⟩, 0, false, 5)
   | some r => (r.2, (r.1 : Int), decide (ruleAt m r.2 = noR), 0)) := by
 obtain ⟨s, q, M⟩ := machB_mai hm
 have hT := CfT.of M hc
 have hb : F_impl_budgetOk (n : Int) = some true := by
  unfold F_impl_budgetOk
  rw [impl_in, bnd_some_eq]
  congr 1
  exact inB_iff.2 (by omega)
 unfold F_impl_RunMachine
 rw [impl_confV m c (machB_sml hm) (confB_sml hc), bnd_some_eq, hm, hc, hb, impl_runnerOf hc]
 simp only [bnd_some_eq, Bool.and_self, Bool.not_true, cond_false]
 obtain ⟨x, hx, hg⟩ := run_goC M c n 0 c 0 hT (by omega)
 rw [Nat.add_zero, show ((0 : Nat) : Int) = 0 from rfl] at hx
 unfold F_impl_runner_run
 show bnd (bnd (run (F_impl_runner_run_L1 (rnr m c) (n : Int)) (c.State, c.Left.reverse, c.Right.reverse, 0, 0)) _) _ = _
 rw [hx, bnd_some_eq]
 cases hgo : goC m n c with
 | none =>
  rw [hgo] at hg
  obtain ⟨t, rfl⟩ := hg
  rfl
 | some r =>
  rw [hgo] at hg
  simp only at hg
  subst hg
  have hr := (goC_conf M n c hT r hgo).1
  have hh : F_impl_runner_halts ⟨m.Symbols, m.States, m.Rules, r.2.State, r.2.Left.reverse, r.2.Right.reverse⟩ = some (decide (ruleAt m r.2 = noR)) := impl_haltsR M hr.cf (by omega)
  have hcf : F_impl_runner_config ⟨m.Symbols, m.States, m.Rules, r.2.State, r.2.Left.reverse, r.2.Right.reverse⟩ = some r.2 := impl_configR m r.2 (by have := hr.cf.ll; omega) (by have := hr.cf.rl; omega)
  simp only [Out.elim]
  rw [hh, bnd_some_eq, bnd_some_eq]
  simp only
  rw [decide_eq_false (by decide), cond_false, hcf, bnd_some_eq, Nat.zero_add]
end Go.Fn
