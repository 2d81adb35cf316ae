/-
  The erasing of a halted word, on both sides. No program in sight. No condition.
-/
import Derived.Test.YtneglngdbcefgaaPHdB
import Derived.Test.YtneglngdbcefgaaPNf
namespace Go.Fn
open Go Go.Tc
theorem uniq_at {l1 l2 u v : List Int} {z z' : Int} (h1 : z' ∉ l1) (h2 : z' ∉ l2) (h : l1 ++ (z :: l2) = u ++ (z' :: v)) : u = l1 ∧ z' = z ∧ v = l2 := by
  have hl : u.length = l1.length := by
    rcases Nat.lt_trichotomy u.length l1.length with g1 | g1 | g1
    · exfalso
      have g : (l1 ++ (z :: l2))[u.length]? = (u ++ (z' :: v))[u.length]? := by rw [h]
      rw [List.getElem?_append_left g1, List.getElem?_append_right (Nat.le_refl _), Nat.sub_self, List.getElem?_cons_zero] at g
      exact h1 (List.mem_of_getElem? g)
    · exact g1
    · exfalso
      have g : (l1 ++ (z :: l2))[u.length]? = (u ++ (z' :: v))[u.length]? := by rw [h]
      rw [List.getElem?_append_right (by omega), List.getElem?_append_right (Nat.le_refl _), Nat.sub_self, List.getElem?_cons_zero] at g
      obtain ⟨n, hn⟩ : ∃ n, u.length - l1.length = n + 1 := ⟨u.length - l1.length - 1, by omega⟩
      rw [hn, List.getElem?_cons_succ] at g
      exact h2 (List.mem_of_getElem? g)
  obtain ⟨e1, e2⟩ := List.append_inj h hl.symm
  simp only [List.cons.injEq] at e2
  exact ⟨e1.symm, e2.1.symm, e2.2.symm⟩
theorem mem_posn {w f : List Int} {a : Nat} : a ∈ posn w f ↔ a ≤ w.length ∧ (w.drop a).take f.length = f := by
  unfold posn
  rw [List.mem_filter, List.mem_range, decide_eq_true_eq]
  constructor
  · rintro ⟨h1, h2⟩; exact ⟨by omega, h2⟩
  · rintro ⟨h1, h2⟩; exact ⟨by omega, h2⟩
theorem posn_one {w f : List Int} {a0 : Nat} (h : ∀ a, a ∈ posn w f → a = a0) : posn w f = if (w.drop a0).take f.length = f ∧ a0 ≤ w.length then [a0] else [] := by
  have hh : ∀ a, a < w.length + 1 → decide ((w.drop a).take f.length = f) = true → a = a0 := fun a ha hd => h a (mem_posn.2 ⟨by omega, of_decide_eq_true hd⟩)
  unfold posn
  rw [filter_one (w.length + 1) hh]
  by_cases hc : (w.drop a0).take f.length = f ∧ a0 ≤ w.length
  · rw [if_pos hc, if_pos ⟨by omega, decide_eq_true hc.1⟩]
  · rw [if_neg hc, if_neg]
    rintro ⟨h1, h2⟩
    exact hc ⟨of_decide_eq_true h2, by omega⟩
theorem find_run3 (w f : List Int) (hw : w.length ≤ 1000) (hf : f.length ≤ 1000) : ∀ k n : Nat, n + k = w.length + 1 →
    ∃ o : Out Int Int, run (F_spec_l03Find_L1 w f) (n : Int) = some o ∧ (match o with
      | .ret v => ∃ a, a ∈ posn w f ∧ v = (a : Int)
      | .brk _ => ∀ a, n ≤ a → a ∉ posn w f) := by
  intro k
  induction k with
  | zero =>
    intro n hn
    refine ⟨.brk (n : Int), run_done ?_, fun a ha hm => ?_⟩
    · simp only [F_spec_l03Find_L1]
      rw [w64_in (by omega) (by omega), decide_eq_false (by omega), cond_false]
    · have := posn_mem hm
      omega
  | succ k ih =>
    intro n hn
    by_cases h : n + f.length ≤ w.length
    · by_cases hm : (w.drop n).take f.length = f
      · refine ⟨.ret (n : Int), run_done ?_, n, mem_posn.2 ⟨by omega, hm⟩, rfl⟩
        simp only [F_spec_l03Find_L1]
        rw [w64_in (by omega) (by omega), decide_eq_true (by omega), cond_true, spec_at w f n (by omega) (by omega) (by omega), bnd_some_eq, decide_eq_true hm, cond_true]
      · have hb : F_spec_l03Find_L1 w f (n : Int) = some (.inl ((n + 1 : Nat) : Int)) := by
          simp only [F_spec_l03Find_L1]
          rw [w64_in (by omega) (by omega), decide_eq_true (by omega), cond_true, spec_at w f n (by omega) (by omega) (by omega), bnd_some_eq, decide_eq_false hm, cond_false, w64_nat1 (by omega)]
        rw [run_next hb]
        obtain ⟨o, ho, hq⟩ := ih (n + 1) (by omega)
        refine ⟨o, ho, ?_⟩
        cases o with
        | ret v => exact hq
        | brk v =>
          intro a ha hmem
          by_cases he : a = n
          · subst he
            exact hm (mem_posn.1 hmem).2
          · exact hq a (by omega) hmem
    · refine ⟨.brk (n : Int), run_done ?_, fun a ha hm => ?_⟩
      · simp only [F_spec_l03Find_L1]
        rw [w64_in (by omega) (by omega), decide_eq_false (by omega), cond_false]
      · have := posn_mem hm
        omega
theorem find_no {w f : List Int} (hw : w.length ≤ 1000) (hf : f.length ≤ 1000) (h : posn w f = []) : F_spec_l03Find w f 0 = some (-1) := by
  obtain ⟨o, ho, hq⟩ := find_run3 w f hw hf (w.length + 1) 0 (by omega)
  unfold F_spec_l03Find
  rw [show ((0 : Nat) : Int) = 0 from rfl] at ho
  rw [ho, bnd_some_eq]
  cases o with
  | ret v =>
    obtain ⟨a, h1, _⟩ := hq
    rw [h] at h1
    simp at h1
  | brk v => rfl
theorem find_at {w f : List Int} {a : Nat} (hw : w.length ≤ 1000) (hf : f.length ≤ 1000) (h : posn w f = [a]) : F_spec_l03Find w f 0 = some (a : Int) := by
  obtain ⟨o, ho, hq⟩ := find_run3 w f hw hf (w.length + 1) 0 (by omega)
  unfold F_spec_l03Find
  rw [show ((0 : Nat) : Int) = 0 from rfl] at ho
  rw [ho, bnd_some_eq]
  cases o with
  | ret v =>
    obtain ⟨a', h1, rfl⟩ := hq
    rw [h, List.mem_singleton] at h1
    subst h1
    rfl
  | brk v =>
    have := hq a (Nat.zero_le _)
    rw [h] at this
    simp at this
theorem idx_get {α : Type} (xs : List α) (k : Nat) : idx xs (k : Int) = xs[k]? := by
  unfold idx
  rw [if_neg (by omega), Int.toNat_natCast]
/-- A step of the reference: the first rule that occurs, of every so many. -/
theorem step32 {L : List GRewrite} {w : List Int} {lo hi by' : Nat} (hw : w.length ≤ 1000) (hL : L.length ≤ 1000) (hb : by' ≤ 10) (hlo : hi ≤ L.length) (hs : ∀ r ∈ L, r.From.length ≤ 10 ∧ r.To.length ≤ 10) :
    ∀ (n k : Nat), (∀ j, j < n → k + by' * j < hi ∧ ∀ r, L[k + by' * j]? = some r → posn w r.From = []) →
      (∀ r a, L[k + by' * n]? = some r → k + by' * n < hi → posn w r.From = [a] → run (F_spec_l32Step_L1 L w (hi : Int) (by' : Int)) (k : Int) = some (.ret ([((k + by' * n : Nat) : Int), (a : Int)], putW w r.To a r.From.length, true))) ∧
      (hi ≤ k + by' * n → run (F_spec_l32Step_L1 L w (hi : Int) (by' : Int)) (k : Int) = some (.brk ((k + by' * n : Nat) : Int))) := by
  intro n
  induction n with
  | zero =>
    intro k _
    rw [Nat.mul_zero, Nat.add_zero]
    constructor
    · intro r a hr hk hp
      have hm := hs r (List.mem_of_getElem? hr)
      have ha := posn_mem (show a ∈ posn w r.From by rw [hp]; simp)
      refine run_done ?_
      simp only [F_spec_l32Step_L1]
      rw [decide_eq_true (by omega), cond_true, idx_get, hr, bnd_some_eq, find_at hw (by omega) hp, bnd_some_eq, decide_eq_true (by omega), cond_true, bnd_some_eq, bnd_some_eq, spec_put _ _ _ _ (by omega) (by omega) ha.2, bnd_some_eq]
    · intro h
      refine run_done ?_
      simp only [F_spec_l32Step_L1]
      rw [decide_eq_false (by omega), cond_false]
  | succ n ih =>
    intro k hn
    obtain ⟨h0, h1⟩ := hn 0 (by omega)
    rw [Nat.mul_zero, Nat.add_zero] at h0 h1
    have hlt : k < L.length := by omega
    have hr := List.getElem?_eq_getElem hlt
    have hm := hs _ (List.getElem_mem hlt)
    have hb' : F_spec_l32Step_L1 L w (hi : Int) (by' : Int) (k : Int) = some (.inl ((k + by' : Nat) : Int)) := by
      simp only [F_spec_l32Step_L1]
      rw [decide_eq_true (by omega), cond_true, idx_get, hr, bnd_some_eq, find_no hw (by omega) (h1 _ hr), bnd_some_eq, decide_eq_false (by decide), cond_false, w64_in (by omega) (by omega)]
      rfl
    have e : ∀ j, k + by' + by' * j = k + by' * (j + 1) := fun j => by rw [Nat.mul_succ]; omega
    obtain ⟨q1, q2⟩ := ih (k + by') (fun j hj => by
      have := hn (j + 1) (by omega)
      rw [e]
      exact this)
    rw [e] at q1 q2
    rw [run_next hb']
    exact ⟨q1, q2⟩
/-! ### Words with the eraser -/
def ers (m : GMachine) : Int := m.Symbols + m.States + 1
def Ed (m : GMachine) (L R : List Int) : List Int := (m.Symbols + m.States) :: (L ++ (ers m :: (R ++ [m.Symbols + m.States])))
theorem Ed_len (m : GMachine) (L R : List Int) : (Ed m L R).length = L.length + R.length + 3 := by
  unfold Ed
  simp only [List.length_cons, List.length_append, List.length_nil]
  omega
def freeL (m : GMachine) : List GRewrite := (List.range m.Rules.length).flatMap fun i => cond (isNo m i) (freeRw m i) []
def eraseL (m : GMachine) (s : Nat) : List GRewrite := (List.range s).flatMap (eraseRw m)
theorem haltL_eq (m : GMachine) (s : Nat) : haltL m s = ownL m s ++ (freeL m ++ eraseL m s) := by
  unfold haltL freeL eraseL
  rw [List.append_assoc]
theorem eraseL_len (m : GMachine) : ∀ s, (eraseL m s).length = 2 * s
  | 0 => rfl
  | s + 1 => by
    have := eraseL_len m s
    unfold eraseL at this ⊢
    rw [List.range_succ, List.flatMap_append, List.length_append, this]
    simp [eraseRw]
    omega
theorem eraseL_get (m : GMachine) : ∀ (s c : Nat), c < s → (eraseL m s)[2 * c]? = some ⟨[ers m, (c : Int)], [ers m]⟩ ∧ (eraseL m s)[2 * c + 1]? = some ⟨[(c : Int), ers m], [ers m]⟩
  | 0, c, h => by omega
  | s + 1, c, h => by
    have hl := eraseL_len m s
    have he : eraseL m (s + 1) = eraseL m s ++ eraseRw m s := by
      unfold eraseL
      rw [List.range_succ, List.flatMap_append]
      simp
    rw [he]
    by_cases hc : c < s
    · obtain ⟨a, b⟩ := eraseL_get m s c hc
      rw [List.getElem?_append_left (by omega), List.getElem?_append_left (by omega)]
      exact ⟨a, b⟩
    · have : c = s := by omega
      subst this
      rw [List.getElem?_append_right (by omega), List.getElem?_append_right (by omega), hl, Nat.sub_self, Nat.add_sub_cancel_left]
      exact ⟨rfl, rfl⟩
section
variable {m : GMachine} {s q : Nat}
theorem freeL_mem (T : Tiny m s q) (w : GRewrite) : w ∈ freeL m ↔ ∃ p a : Nat, p < q ∧ a < s ∧ m.Rules.getD (p * s + a) noR = noR ∧ (w = ⟨[m.Symbols + (p : Int), (a : Int)], [ers m]⟩ ∨ (a = 0 ∧ w = ⟨[m.Symbols + (p : Int), m.Symbols + m.States], [ers m, m.Symbols + m.States]⟩)) := by
  have hs := T.hs
  have hq := T.hq
  have b1 := T.b1
  have b3 := T.b3
  have hfr : ∀ p a : Nat, p < q → a < s → (w ∈ freeRw m (p * s + a) ↔ (w = ⟨[m.Symbols + (p : Int), (a : Int)], [ers m]⟩ ∨ (a = 0 ∧ w = ⟨[m.Symbols + (p : Int), m.Symbols + m.States], [ers m, m.Symbols + m.States]⟩))) := by
    intro p a hp ha
    have hd : Int.tdiv ((p * s + a : Nat) : Int) m.Symbols = (p : Int) := by
      rw [hs, Int.tdiv_eq_ediv_of_nonneg (by omega)]
      have : (p * s + a) / s = p := by rw [Nat.mul_comm, Nat.mul_add_div (by omega), Nat.div_eq_of_lt ha, Nat.add_zero]
      omega
    have hm : Int.tmod ((p * s + a : Nat) : Int) m.Symbols = (a : Int) := by
      rw [hs, Int.tmod_eq_emod_of_nonneg (by omega)]
      have : (p * s + a) % s = a := by rw [Nat.mul_comm, Nat.mul_add_mod, Nat.mod_eq_of_lt ha]
      omega
    unfold freeRw ers
    rw [hd, hm, w64_in (n := (p : Int)) (by omega) (by omega), w64_in (n := m.Symbols + (p : Int)) (by omega) (by omega)]
    by_cases h0 : a = 0
    · rw [decide_eq_true (by omega), cond_true]
      simp [h0]
    · rw [decide_eq_false (by omega), cond_false]
      simp [h0]
  unfold freeL
  rw [List.mem_flatMap]
  constructor
  · rintro ⟨i, hi, hw⟩
    have hi := List.mem_range.1 hi
    rw [T.hl] at hi
    obtain ⟨p, a, hp, ha, rfl⟩ := split_at hi (by omega)
    unfold isNo at hw
    by_cases hn : m.Rules.getD (p * s + a) noR = noR
    · rw [decide_eq_true hn, cond_true] at hw
      exact ⟨p, a, hp, ha, hn, (hfr p a hp ha).1 hw⟩
    · rw [decide_eq_false hn, cond_false] at hw
      simp at hw
  · rintro ⟨p, a, hp, ha, hn, hw⟩
    refine ⟨p * s + a, List.mem_range.2 (by rw [T.hl]; exact at_lt hp ha), ?_⟩
    unfold isNo
    rw [decide_eq_true hn, cond_true]
    exact (hfr p a hp ha).2 hw
variable {X : List Int} {p : Int} {Y : List Int}
/-- A rule that starts the erasing occurs at the state. -/
theorem occF (T : Tiny m s q) (C : Cfw m X p Y) {w : GRewrite} (hw : w ∈ freeL m) {pre suf : List Int} (h : Wd m X p Y = pre ++ (w.From ++ suf)) : pre.length = X.length + 1 ∧ pre ++ (w.To ++ suf) = Ed m X Y.tail := by
  have hq := T.hq
  have b2 := T.b2
  obtain ⟨p', a, hp, ha, hn, rfl | ⟨h0, rfl⟩⟩ := (freeL_mem T w).1 hw
  · obtain ⟨e1, e2, e3⟩ := place1 C (show m.Symbols ≤ m.Symbols + (p' : Int) ∧ m.Symbols + (p' : Int) < m.Symbols + m.States by omega) (u := pre) (v := (a : Int) :: suf) h
    have hs := T.hs
    obtain ⟨e4, e5⟩ := after1 C.sy (by omega) (by omega) e3
    rw [e1, e5]
    exact ⟨by rw [List.length_cons], by unfold Ed; simp⟩
  · obtain ⟨e1, e2, e3⟩ := place1 C (show m.Symbols ≤ m.Symbols + (p' : Int) ∧ m.Symbols + (p' : Int) < m.Symbols + m.States by omega) (u := pre) (v := (m.Symbols + m.States) :: suf) h
    obtain ⟨e4, e5⟩ := after2 C.sy (by omega) e3
    rw [e1, e5, e4]
    exact ⟨by rw [List.length_cons], by unfold Ed; simp⟩
theorem occF_ex (T : Tiny m s q) (C : Cfw m X p Y) (hn : rl m p Y = noR) : ∃ w ∈ freeL m, ∃ pre suf, Wd m X p Y = pre ++ (w.From ++ suf) := by
  have hs := T.hs
  have hq := T.hq
  have b1 := T.b1
  have hp0 := C.p0
  have hp1 := C.p1
  obtain ⟨p', rfl⟩ : ∃ p' : Nat, p = (p' : Int) := ⟨p.toNat, by omega⟩
  have hy : 0 ≤ Y.headD 0 ∧ Y.headD 0 < m.Symbols := by
    cases Y with
    | nil => show (0 : Int) ≤ 0 ∧ (0 : Int) < m.Symbols; omega
    | cons y Y => exact C.sy y (List.mem_cons_self ..)
  obtain ⟨a, hya⟩ : ∃ a : Nat, Y.headD 0 = (a : Int) := ⟨(Y.headD 0).toNat, by omega⟩
  have hr : rl m (p' : Int) Y = m.Rules.getD (p' * s + a) noR := by
    unfold rl
    rw [hya, hs]
    congr 1
  rw [hr] at hn
  cases Y with
  | nil =>
    have h0 : a = 0 := by
      have : (0 : Int) = (a : Int) := hya
      omega
    exact ⟨_, (freeL_mem T _).2 ⟨p', a, by omega, by omega, hn, .inr ⟨h0, rfl⟩⟩, (m.Symbols + m.States) :: X, [], by unfold Wd; simp⟩
  | cons y Y =>
    have h0 : y = (a : Int) := hya
    exact ⟨_, (freeL_mem T _).2 ⟨p', a, by omega, by omega, hn, .inl rfl⟩, (m.Symbols + m.States) :: X, Y ++ [m.Symbols + m.States], by unfold Wd; rw [h0]; simp⟩
def mF (m : GMachine) (X : List Int) (p : Int) (Y : List Int) (w : GRewrite) : Bool := decide (((Wd m X p Y).drop (X.length + 1)).take w.From.length = w.From)
theorem posnF (T : Tiny m s q) (C : Cfw m X p Y) {w : GRewrite} (hw : w ∈ freeL m) : posn (Wd m X p Y) w.From = if mF m X p Y w = true then [X.length + 1] else [] := by
  have hl := Wd_len m X p Y
  rw [posn_one (a0 := X.length + 1) (fun a ha => by
    obtain ⟨h1, h2⟩ := mem_posn.1 ha
    have hc := cut3 (Wd m X p Y) a w.From.length
    rw [h2] at hc
    have := (occF T C hw hc).1
    rw [List.length_take, Nat.min_eq_left h1] at this
    exact this)]
  unfold mF
  by_cases h : ((Wd m X p Y).drop (X.length + 1)).take w.From.length = w.From
  · rw [if_pos ⟨h, by omega⟩, if_pos (decide_eq_true h)]
  · rw [if_neg (fun e => h e.1), if_neg (fun e => h (of_decide_eq_true e))]
theorem newF (T : Tiny m s q) (C : Cfw m X p Y) {w : GRewrite} (hw : w ∈ freeL m) (h : mF m X p Y w = true) : putW (Wd m X p Y) w.To (X.length + 1) w.From.length = Ed m X Y.tail := by
  have hc := cut3 (Wd m X p Y) (X.length + 1) w.From.length
  unfold mF at h
  rw [of_decide_eq_true h] at hc
  have := (occF T C hw hc).2
  unfold putW
  rw [List.append_assoc, this]
theorem firstF (T : Tiny m s q) (C : Cfw m X p Y) (hn : rl m p Y = noR) : ∃ (k : Nat) (hk : k < (freeL m).length), mF m X p Y (freeL m)[k] = true ∧ ∀ j (hj : j < k), mF m X p Y ((freeL m)[j]'(by omega)) = false := by
  obtain ⟨w, hw, pre, suf, h⟩ := occF_ex T C hn
  have hm : mF m X p Y w = true := by
    have e := (occF T C hw h).1
    unfold mF
    rw [← e, h, List.drop_left' rfl, List.take_left' rfl]
    exact decide_eq_true rfl
  cases hf : (freeL m).findIdx? (mF m X p Y) with
  | none =>
    have := List.findIdx?_eq_none_iff.1 hf w hw
    rw [this] at hm
    cases hm
  | some k =>
    obtain ⟨hk, h1, h2⟩ := List.findIdx?_eq_some_iff_getElem.1 hf
    exact ⟨k, hk, h1, fun j hj => by have := h2 j hj; simpa using this⟩
theorem free_small (T : Tiny m s q) : ∀ w ∈ freeL m, ∃ p' : Nat, p' < q ∧ ∃ b : Int, (b < m.Symbols ∨ b = m.Symbols + m.States) ∧ w.From = [m.Symbols + (p' : Int), b] ∧ w.To.length ≤ 2 := by
  intro w hw
  have hs := T.hs
  obtain ⟨p', a, hp, ha, hn, rfl | ⟨h0, rfl⟩⟩ := (freeL_mem T w).1 hw
  · exact ⟨p', hp, (a : Int), .inl (by omega), rfl, by simp⟩
  · exact ⟨p', hp, _, .inr rfl, rfl, by simp⟩
end
end Go.Fn
