/-
  Matrices of dominoes; the plain laws of SquareOfDomino and ProductOf. No program in sight. No condition.
-/
import Derived.Test.YtgojoooilijiiaaPSquare
namespace Go.Fn
open Go Go.Tc
theorem enc_small {n : Int} (h : 1 ≤ n ∧ n ≤ 999999) : enc n = [n] ∧ Good n := by
  have hd : dig [n] := fun x hx => by rw [List.mem_singleton] at hx; omega
  have := enc_eq hd
  rw [val_single] at this
  refine ⟨?_, ⟨[n], hd, val_single n⟩⟩
  rw [← this, trimL_cons, if_neg (by omega)]
  rfl
theorem impl_of {n : Int} (h : 1 ≤ n ∧ n ≤ 999999) : F_impl_naturalOf n = some [n] := by
  unfold F_impl_naturalOf
  obtain ⟨X, h1, h2, h3, h4⟩ := impl_carried [n] (by simp) (fun x hx => by rw [List.mem_singleton] at hx; omega)
  rw [h1, bnd_some_eq, enc_eq h2, h3, val_single, (enc_small h).1]
theorem dig1 {n : Int} (h : 1 ≤ n ∧ n ≤ 999999) : dig [n] := fun x hx => by rw [List.mem_singleton] at hx; omega
/-- One more letter. -/
theorem step_spec {v n : Int} (hv : Good v) (hl : (enc v).length ≤ 40000) (hn : 1 ≤ n ∧ n ≤ 999999) : Good (v * 11) ∧ Good (v * 11 + n) ∧ (enc (v * 11)).length ≤ (enc v).length + 2 ∧ (enc (v * 11 + n)).length ≤ (enc v).length + 3 := by
  obtain ⟨q1, q2⟩ := mulE_good (enc v) [11] (dig_enc v) (dig1 (by decide))
  rw [val_enc hv, val_single] at q1 q2
  obtain ⟨r1, r2⟩ := addE_good (enc (v * 11)) [n] (dig_enc _) (dig1 hn)
  rw [val_enc q1, val_single] at r1 r2
  simp only [List.length_singleton] at q2 r2
  exact ⟨q1, r1, by omega, by omega⟩
def vw (w : List Int) : Int := w.foldl (fun v x => v * 11 + (x + 1)) 0
def p11 : Nat → Int
  | 0 => 1
  | n + 1 => p11 n * 11
theorem vw_good (w : List Int) (hw : ∀ x ∈ w, 0 ≤ x ∧ x ≤ 9) (hl : w.length ≤ 400) : Good (vw w) ∧ (enc (vw w)).length ≤ w.length * 3 := by
  have key : ∀ (xs : List Int) (v : Int) (k : Nat), (∀ x ∈ xs, 0 ≤ x ∧ x ≤ 9) → Good v → (enc v).length ≤ k → k + xs.length * 3 ≤ 40000 → Good (xs.foldl (fun v x => v * 11 + (x + 1)) v) ∧ (enc (xs.foldl (fun v x => v * 11 + (x + 1)) v)).length ≤ k + xs.length * 3 := by
    intro xs
    induction xs with
    | nil => intro v k _ h1 h2 _; exact ⟨h1, by simpa using h2⟩
    | cons x xs ih =>
      intro v k hx h1 h2 h3
      have h4 := hx x (by simp)
      rw [List.length_cons] at h3
      obtain ⟨_, g2, _, g4⟩ := step_spec (n := x + 1) h1 (by omega) (by omega)
      have := ih (v * 11 + (x + 1)) (k + 3) (fun y hy => hx y (by simp [hy])) g2 (by omega) (by omega)
      rw [List.foldl_cons, List.length_cons]
      exact ⟨this.1, by omega⟩
  have := key w 0 0 hw ⟨[], by simp [dig], rfl⟩ (by rw [enc_zero]; simp) (by omega)
  rw [Nat.zero_add] at this
  exact this
theorem impl_value (w : List Int) (hw : ∀ x ∈ w, 0 ≤ x ∧ x ≤ 9) (hl : w.length ≤ 400) : F_impl_valueOf w = some (enc (vw w)) := by
  unfold F_impl_valueOf
  rw [impl_moved w 1 (by omega), bnd_some_eq, impl_reversed _ (by simp; omega), bnd_some_eq]
  unfold F_impl_fromDigits
  have hlen : ((w.map fun x => w64 (x + 1)).reverse).length = w.length := by simp
  have key : ∀ (k i : Nat) (v : Int), i + k = w.length → Good v → (enc v).length ≤ i * 3 → run (F_impl_fromDigits_L1 (w.map fun x => w64 (x + 1)).reverse 11) (enc v, (w.length : Int) - 1 - (i : Int)) = some (.brk (enc ((w.drop i).foldl (fun v x => v * 11 + (x + 1)) v), -1)) := by
    intro k
    induction k with
    | zero =>
      intro i v hi _ _
      obtain rfl : i = w.length := by omega
      rw [List.drop_length, show (w.length : Int) - 1 - (w.length : Int) = -1 by omega]
      exact run_done rfl
    | succ k ih =>
      intro i v hi g hl'
      have hlt : i < w.length := by omega
      have hx := hw _ (List.getElem_mem hlt)
      obtain ⟨g1, g2, g3, g4⟩ := step_spec (n := w[i] + 1) g (by omega) (by omega)
      have hb : F_impl_fromDigits_L1 (w.map fun x => w64 (x + 1)).reverse 11 (enc v, (w.length : Int) - 1 - (i : Int)) = some (.inl (enc (v * 11 + (w[i] + 1)), (w.length : Int) - 1 - ((i + 1 : Nat) : Int))) := by
        unfold F_impl_fromDigits_L1
        simp only []
        have hj : w.length - 1 - i < ((w.map fun x => w64 (x + 1)).reverse).length := by omega
        have eg : ((w.map fun x => w64 (x + 1)).reverse)[w.length - 1 - i] = w[i] + 1 := by
          have e1 : ((w.map fun x => w64 (x + 1)).reverse)[w.length - 1 - i]? = some (w64 (w[i] + 1)) := by
            rw [List.getElem?_reverse (by simp; omega), List.getElem?_map, List.length_map, show w.length - 1 - (w.length - 1 - i) = i by omega, List.getElem?_eq_getElem hlt]
            rfl
          rw [List.getElem?_eq_getElem hj] at e1
          rw [Option.some.inj e1, w64_in (by omega) (by omega)]
        rw [decide_eq_true (by omega), cond_true, show (w.length : Int) - 1 - (i : Int) = ((w.length - 1 - i : Nat) : Int) by omega, idx_nat hj, bnd_some_eq, eg, impl_of (by decide), bnd_some_eq, impl_mulE (enc v) [11] (dig_enc v) (dig1 (by decide)) (by omega) (by simp), bnd_some_eq, impl_of (by omega), bnd_some_eq, val_enc g, val_single, impl_addE (enc (v * 11)) [w[i] + 1] (dig_enc _) (dig1 (by omega)) (by omega) (by simp), bnd_some_eq, val_enc g1, val_single, w64_in (by omega) (by omega)]
        congr 3
        omega
      rw [run_next hb, List.drop_eq_getElem_cons hlt, List.foldl_cons]
      exact ih (i + 1) _ (by omega) g2 (by omega)
  rw [hlen, w64_in (by omega) (by omega)]
  have := key w.length 0 0 (by omega) ⟨[], by simp [dig], rfl⟩ (by rw [enc_zero]; simp)
  rw [enc_zero, show (w.length : Int) - 1 - ((0 : Nat) : Int) = (w.length : Int) - 1 by omega, List.drop_zero] at this
  rw [this]
  rfl
/-! ### Powers -/
theorem p11_pos : ∀ n, 1 ≤ p11 n
  | 0 => by simp [p11]
  | n + 1 => by
    have := p11_pos n
    show 1 ≤ p11 n * 11
    omega
theorem p11_mono : ∀ {n k : Nat}, n ≤ k → p11 n ≤ p11 k
  | n, 0, h => by
    obtain rfl : n = 0 := by omega
    exact Int.le_refl _
  | n, k + 1, h => by
    by_cases e : n = k + 1
    · subst e; exact Int.le_refl _
    · have := p11_mono (n := n) (k := k) (by omega)
      have := p11_pos k
      show p11 n ≤ p11 k * 11
      omega
theorem p11_good : ∀ n : Nat, n ≤ 400 → Good (p11 n) ∧ (enc (p11 n)).length ≤ 1 + n * 2
  | 0, _ => ⟨(enc_small (n := 1) (by decide)).2, by show (enc 1).length ≤ _; rw [(enc_small (n := 1) (by decide)).1]; simp⟩
  | n + 1, h => by
    obtain ⟨g, l⟩ := p11_good n (by omega)
    obtain ⟨g1, _, g3, _⟩ := step_spec (n := 1) g (by omega) (by decide)
    exact ⟨g1, by show (enc (p11 n * 11)).length ≤ _; omega⟩
/-- Whether a number has at most forty limbs hangs on its size. -/
theorem len_mono {u v : Int} (hu : Good u) (hv : Good v) (h : u ≤ v) : (enc u).length ≤ (enc v).length := by
  refine Classical.byContradiction fun hn => ?_
  have hlt : (enc v).length < (enc u).length := by omega
  have h1 := val_lt (dig_enc v)
  rw [val_enc hv] at h1
  have h2 : pw ((enc u).length - 1) ≤ val (enc u) := by
    rcases snoc_cases (enc u) with he | ⟨ys, y, he⟩
    · rw [he] at hlt; simp at hlt
    · have hlast : y ≠ 0 := by
        intro hy
        have := trim_enc u
        rw [he, trimL_snoc, if_pos hy] at this
        have h3 := trimL_len ys
        rw [this] at h3
        rw [List.length_append, List.length_singleton] at h3
        omega
      have hd := dig_enc u
      rw [he] at hd
      have hy := hd y (by simp)
      have hys : dig ys := fun x hx => hd x (by simp [hx])
      have h4 := val_nonneg hys
      rw [he, val_append, val_single, List.length_append, List.length_singleton, Nat.add_sub_cancel]
      have h5 := pw_pos ys.length
      have h6 : pw ys.length ≤ pw ys.length * y := by
        have := Int.mul_le_mul_of_nonneg_left (show (1 : Int) ≤ y by omega) (Int.le_of_lt h5)
        rwa [Int.mul_one] at this
      omega
  rw [val_enc hu] at h2
  have h7 : pw (enc v).length ≤ pw ((enc u).length - 1) := pw_le (by omega)
  omega
theorem impl_power (n : Nat) (hn : n ≤ 400) : ∃ u, F_impl_basePower (n : Int) = some (enc u) ∧ Good u ∧ u ≤ p11 n ∧ (u = p11 n ∨ 40 < (enc u).length) := by
  unfold F_impl_basePower F_impl_one
  rw [bnd_some_eq]
  have key : ∀ (k i : Nat), i + k = n → ∃ (u : Int) (j : Int), run F_impl_basePower_L1 ((k : Int), enc (p11 i)) = some (.brk (j, enc u)) ∧ Good u ∧ u ≤ p11 n ∧ (u = p11 n ∨ 40 < (enc u).length) := by
    intro k
    induction k with
    | zero =>
      intro i hi
      obtain rfl : i = n := by omega
      exact ⟨p11 i, 0, run_done rfl, (p11_good i hn).1, Int.le_refl _, .inl rfl⟩
    | succ k ih =>
      intro i hi
      obtain ⟨g, l⟩ := p11_good i (by omega)
      by_cases h40 : (enc (p11 i)).length ≤ 40
      · have hb : F_impl_basePower_L1 (((k + 1 : Nat) : Int), enc (p11 i)) = some (.inl ((k : Int), enc (p11 (i + 1)))) := by
          unfold F_impl_basePower_L1
          simp only []
          rw [decide_eq_true (by omega), cond_true, decide_eq_true (by omega), cond_true, impl_mulE (enc (p11 i)) [11] (dig_enc _) (dig1 (by decide)) (by omega) (by simp), bnd_some_eq, val_enc g, val_single, w64_in (by omega) (by omega)]
          congr 3
          omega
        rw [run_next hb]
        exact ih (i + 1) (by omega)
      · refine ⟨p11 i, ((k + 1 : Nat) : Int), run_done ?_, g, p11_mono (by omega), .inr (by omega)⟩
        unfold F_impl_basePower_L1
        simp only []
        rw [decide_eq_true (by omega), cond_true, decide_eq_false (by omega)]
        rfl
  obtain ⟨u, j, h1, h2, h3, h4⟩ := key n 0 (by omega)
  rw [show enc (p11 0) = [1] from (enc_small (n := 1) (by decide)).1] at h1
  refine ⟨u, ?_, h2, h3, h4⟩
  rw [h1]
  rfl
/-! ### The matrix -/
noncomputable def sqM (p q v w : Int) : List (List Int) := [enc p, [], [], [], enc q, [], enc v, enc w, enc 1]
noncomputable def fitT (p q v w : Int) : Bool := decide ((enc p).length ≤ 40) && decide ((enc q).length ≤ 40) && decide ((enc v).length ≤ 40) && decide ((enc w).length ≤ 40)
theorem fits_sq (p q v w : Int) : ((sqM p q v w).all fun x => decide (x.length ≤ 40)) = fitT p q v w := by
  unfold sqM fitT
  rw [(enc_small (n := 1) (by decide)).1]
  simp [Bool.and_assoc]
theorem nat_sq (p q v w : Int) : (sqM p q v w).all natB = fitT p q v w := by
  rw [← fits_sq]
  unfold sqM
  simp only [List.all_cons, List.all_nil, natB_enc]
  rfl
theorem sq_sml {p q v w : Int} {m : Nat} (hm : m ≤ 1048576) (hp : (enc p).length ≤ m) (hq : (enc q).length ≤ m) (hv : (enc v).length ≤ m) (hw : (enc w).length ≤ m) : Sml (sqM p q v w) := by
  have h1 : (enc 1).length ≤ 1048576 := by rw [(enc_small (n := 1) (by decide)).1]; simp
  refine ⟨by simp [sqM], fun x hx => ⟨?_, fun _ _ => trivial⟩⟩
  unfold sqM at hx
  simp only [List.mem_cons, List.not_mem_nil, or_false] at hx
  rcases hx with rfl | rfl | rfl | rfl | rfl | rfl | rfl | rfl | rfl <;> first | omega | simp
def domL (d : GDomino) : Prop := (d.Top.length ≤ 400 ∧ ∀ x ∈ d.Top, 0 ≤ x ∧ x ≤ 9) ∧ (d.Bottom.length ≤ 400 ∧ ∀ x ∈ d.Bottom, 0 ≤ x ∧ x ≤ 9)
theorem domB_L {d : GDomino} (h : domB d = true) : domL d := by
  have key : ∀ w, wordB w = true → w.length ≤ 400 ∧ ∀ x ∈ w, 0 ≤ x ∧ x ≤ 9 := fun w hw => by
    unfold wordB at hw
    simp only [Bool.and_eq_true, decide_eq_true_eq] at hw
    refine ⟨hw.1, fun x hx => ?_⟩
    have := List.all_eq_true.1 hw.2 x hx
    unfold inB at this
    simpa using this
  unfold domB at h
  simp only [Bool.and_eq_true] at h
  exact ⟨key _ h.1.1, key _ h.1.2⟩
noncomputable def sqL (d : GDomino) : List (List Int) := sqM (p11 d.Top.length) (p11 d.Bottom.length) (vw d.Top) (vw d.Bottom)
noncomputable def fitD (d : GDomino) : Bool := fitT (p11 d.Top.length) (p11 d.Bottom.length) (vw d.Top) (vw d.Bottom)
noncomputable def sqP (d : GDomino) : List (List Int) × Int := cond (fitD d) (sqL d, 0) ([], 5)
theorem impl_sq (d : GDomino) (h : domL d) : F_impl_squareOf d = some (sqP d) := by
  unfold F_impl_squareOf
  obtain ⟨u, u1, u2, u3, u4⟩ := impl_power _ h.1.1
  obtain ⟨t, t1, t2, t3, t4⟩ := impl_power _ h.2.1
  have p1 := p11_good _ h.1.1
  have p2 := p11_good _ h.2.1
  have v1 := vw_good _ h.1.2 h.1.1
  have v2 := vw_good _ h.2.2 h.2.1
  have l1 := h.1.1
  have l2 := h.2.1
  have lu := len_mono u2 p1.1 u3
  have lt := len_mono t2 p2.1 t3
  unfold F_impl_one
  rw [u1, t1, impl_value _ h.1.2 h.1.1, impl_value _ h.2.2 h.2.1]
  simp only [bnd_some_eq]
  rw [← (enc_small (n := 1) (by decide)).1]
  show bnd (F_impl_checkedSquare (sqM u t (vw d.Top) (vw d.Bottom))) _ = _
  unfold F_impl_checkedSquare sqP
  rw [impl_square _ (sq_sml (m := 1200) (by decide) (by omega) (by omega) (by omega) (by omega)), nat_sq]
  simp only [bnd_some_eq, show (sqM u t (vw d.Top) (vw d.Bottom)).length = 9 from rfl, decide_true, Bool.true_and]
  by_cases hf : fitT u t (vw d.Top) (vw d.Bottom) = true
  · have hf' := hf
    unfold fitT at hf'
    simp only [Bool.and_eq_true, decide_eq_true_eq] at hf'
    have eu : u = p11 d.Top.length := u4.resolve_right (by omega)
    have et : t = p11 d.Bottom.length := t4.resolve_right (by omega)
    rw [eu, et] at hf ⊢
    have : fitD d = true := hf
    rw [hf, this]
    rfl
  · have hf0 : fitT u t (vw d.Top) (vw d.Bottom) = false := by simpa using hf
    have hD : fitD d = false := by
      cases hD : fitD d
      · rfl
      · exfalso
        apply hf
        unfold fitD fitT at hD
        unfold fitT
        simp only [Bool.and_eq_true, decide_eq_true_eq] at hD ⊢
        omega
    rw [hf0, hD]
    rfl
end Go.Fn
