/-
  Naturals in limbs: sums, products, trimmed rows. No program in sight. No condition.
-/
import Derived.Test.YtgojoooilijiiaaPConf
import Derived.Test.YtgojoooilijiiaaPMatch
namespace Go.Fn
open Go Go.Tc
def val : List Int → Int
  | [] => 0
  | d :: r => d + 1000000 * val r
theorem val_nil : val [] = 0 := rfl
theorem val_cons (d : Int) (r : List Int) : val (d :: r) = d + 1000000 * val r := rfl
def dig (xs : List Int) : Prop := ∀ x ∈ xs, 0 ≤ x ∧ x ≤ 999999
def pw (k : Nat) : Int := ((1000000 ^ k : Nat) : Int)
theorem pw_zero : pw 0 = 1 := rfl
theorem pw_succ (k : Nat) : pw (k + 1) = 1000000 * pw k := by
  unfold pw
  rw [Nat.pow_succ, Int.natCast_mul, Int.mul_comm]; rfl
theorem pw_add (a b : Nat) : pw (a + b) = pw a * pw b := by
  unfold pw
  rw [Nat.pow_add, Int.natCast_mul]
theorem pw_pos (k : Nat) : 0 < pw k := by
  unfold pw
  have : 0 < 1000000 ^ k := Nat.pow_pos (by decide)
  omega
theorem pw_le {a b : Nat} (h : a ≤ b) : pw a ≤ pw b := by
  unfold pw
  have : 1000000 ^ a ≤ 1000000 ^ b := Nat.pow_le_pow_right (by decide) h
  omega
theorem dig_cons {x : Int} {xs : List Int} : dig (x :: xs) ↔ (0 ≤ x ∧ x ≤ 999999) ∧ dig xs := by simp [dig]
theorem dig_append {xs ys : List Int} (h1 : dig xs) (h2 : dig ys) : dig (xs ++ ys) := fun x hx => by
  rcases List.mem_append.1 hx with hx | hx
  · exact h1 x hx
  · exact h2 x hx
theorem dig_set {xs : List Int} {k : Nat} {d : Int} (h : dig xs) (hd : 0 ≤ d ∧ d ≤ 999999) : dig (xs.set k d) := fun x hx => by
  rcases List.mem_or_eq_of_mem_set hx with hx | rfl
  · exact h x hx
  · exact hd
theorem val_nonneg : ∀ {xs : List Int}, dig xs → 0 ≤ val xs
  | [], _ => by simp [val]
  | x :: xs, h => by
    have := val_nonneg (dig_cons.1 h).2
    have := (dig_cons.1 h).1
    rw [val_cons]; omega
theorem val_lt : ∀ {xs : List Int}, dig xs → val xs < pw xs.length
  | [], _ => by simp [val, pw_zero]
  | x :: xs, h => by
    have := val_lt (dig_cons.1 h).2
    have := (dig_cons.1 h).1
    rw [List.length_cons, pw_succ, val_cons]; omega
theorem val_append : ∀ (xs ys : List Int), val (xs ++ ys) = val xs + pw xs.length * val ys
  | [], ys => by simp [val, pw_zero]
  | x :: xs, ys => by
    rw [List.cons_append, List.length_cons, pw_succ, val_cons, val_cons, val_append xs ys]
    grind
theorem val_single (x : Int) : val [x] = x := by simp [val]
theorem val_set : ∀ (xs : List Int) (k : Nat) (d : Int) (h : k < xs.length), val (xs.set k d) = val xs + (d - xs[k]) * pw k
  | x :: xs, 0, d, _ => by simp [val, pw_zero]; omega
  | x :: xs, k + 1, d, h => by
    have := val_set xs k d (by simpa using h)
    rw [List.set_cons_succ, List.getElem_cons_succ, pw_succ, val_cons, val_cons, this]
    grind
theorem val_zeros : ∀ n : Nat, val (List.replicate n 0) = 0
  | 0 => rfl
  | n + 1 => by
    rw [List.replicate_succ, val_cons, val_zeros n]; rfl
theorem dig_zeros (n : Nat) : dig (List.replicate n 0) := fun x hx => by
  have := List.eq_of_mem_replicate hx
  omega
theorem val_take_succ (xs : List Int) (k : Nat) (h : k < xs.length) : val (xs.take (k + 1)) = val (xs.take k) + xs[k] * pw k := by
  rw [List.take_succ_eq_append_getElem h, val_append, val_single, List.length_take, Nat.min_eq_left (by omega), Int.mul_comm]
theorem val_drop (xs : List Int) (k : Nat) (h : k < xs.length) : val (xs.drop k) = xs[k] + 1000000 * val (xs.drop (k + 1)) := by
  rw [List.drop_eq_getElem_cons h]; rfl
theorem val_drop_end (xs : List Int) (k : Nat) (h : xs.length ≤ k) : val (xs.drop k) = 0 := by
  rw [List.drop_eq_nil_of_le h]; rfl
theorem dig_take {xs : List Int} (h : dig xs) (k : Nat) : dig (xs.take k) := fun x hx => h x (List.mem_of_mem_take hx)
theorem dig_trim {xs : List Int} (h : dig xs) : dig (trimL xs) := fun x hx => by
  unfold trimL at hx
  have := (List.dropWhile_suffix (l := xs.reverse) (fun x => decide (x = 0))).subset (List.mem_reverse.1 hx)
  exact h x (List.mem_reverse.1 this)
theorem trimL_cons (x : Int) (xs : List Int) : trimL (x :: xs) = if trimL xs = [] ∧ x = 0 then [] else x :: trimL xs := by
  unfold trimL
  rw [List.reverse_cons]
  generalize xs.reverse = ys
  induction ys with
  | nil =>
    by_cases h : x = 0
    · simp [h]
    · simp [h]
  | cons y ys ih =>
    rw [List.cons_append, List.dropWhile_cons, List.dropWhile_cons]
    by_cases h : y = 0
    · simp only [h, decide_true, if_true]
      exact ih
    · simp [h]
theorem val_trim : ∀ xs : List Int, val (trimL xs) = val xs
  | [] => rfl
  | x :: xs => by
    rw [trimL_cons]
    have ih := val_trim xs
    by_cases h : trimL xs = [] ∧ x = 0
    · rw [if_pos h]
      rw [h.1, val_nil] at ih
      rw [val_cons, ← ih, h.2]; rfl
    · rw [if_neg h]
      show x + 1000000 * val (trimL xs) = x + 1000000 * val xs
      rw [ih]
theorem trim_zero : ∀ {xs : List Int}, dig xs → val xs = 0 → trimL xs = []
  | [], _, _ => rfl
  | x :: xs, h, hv => by
    have h1 := (dig_cons.1 h).1
    have h2 := val_nonneg (dig_cons.1 h).2
    have hv' : x + 1000000 * val xs = 0 := hv
    rw [trimL_cons, if_pos ⟨trim_zero (dig_cons.1 h).2 (by omega), by omega⟩]
/-- Rows of limbs with one value are one, when trimmed. -/
theorem trim_eq : ∀ {xs ys : List Int}, dig xs → dig ys → val xs = val ys → trimL xs = trimL ys
  | [], ys, _, h, e => by rw [trim_zero h (by rw [← e]; rfl)]; rfl
  | x :: xs, [], h, _, e => by rw [trim_zero h (by rw [e]; rfl)]; rfl
  | x :: xs, y :: ys, h1, h2, e => by
    have a1 := (dig_cons.1 h1).1
    have a2 := (dig_cons.1 h2).1
    have e' : x + 1000000 * val xs = y + 1000000 * val ys := e
    have hxy : x = y := by omega
    have hv : val xs = val ys := by omega
    rw [trimL_cons, trimL_cons, trim_eq (dig_cons.1 h1).2 (dig_cons.1 h2).2 hv, hxy]
theorem natB_dig {xs : List Int} (h : natB xs = true) : dig xs ∧ xs.length ≤ 40 ∧ trimL xs = xs := by
  unfold natB at h
  simp only [Bool.and_eq_true, decide_eq_true_eq, Bool.or_eq_true] at h
  refine ⟨fun x hx => ?_, h.1.1, ?_⟩
  · have := List.all_eq_true.1 h.1.2 x hx
    unfold inB at this
    simp only [Bool.and_eq_true, decide_eq_true_eq] at this
    exact this
  · rcases snoc_cases xs with rfl | ⟨ys, y, rfl⟩
    · rfl
    · rw [trimL_snoc, if_neg]
      intro hy
      rcases h.2 with h2 | h2
      · simp at h2
      · simp [hy] at h2
theorem trim_last (xs : List Int) : trimL xs = [] ∨ (trimL xs).getLastD 0 ≠ 0 := by
  unfold trimL
  cases hd : xs.reverse.dropWhile (fun x => decide (x = 0)) with
  | nil => exact .inl rfl
  | cons y ys =>
    right
    have := List.head?_dropWhile_not (fun x => decide (x = 0)) xs.reverse
    rw [hd] at this
    simp at this
    simpa using this
/-- A trimmed row of limbs is a natural, if it is short. -/
theorem natB_trim {xs : List Int} (h : dig xs) : natB (trimL xs) = decide ((trimL xs).length ≤ 40) := by
  unfold natB
  have h1 : (trimL xs).all (fun x => inB x 0 999999) = true := List.all_eq_true.2 fun x hx => by
    have := dig_trim h x hx
    unfold inB
    simp only [Bool.and_eq_true, decide_eq_true_eq]
    exact this
  rw [h1]
  rcases trim_last xs with h2 | h2
  · rw [h2]; rfl
  · rw [decide_eq_true h2, Bool.or_true, Bool.and_true, Bool.and_true]
theorem divmod {n : Int} (h0 : 0 ≤ n) : Int.tmod n 1000000 + 1000000 * Int.tdiv n 1000000 = n ∧ 0 ≤ Int.tmod n 1000000 ∧ Int.tmod n 1000000 ≤ 999999 ∧ 0 ≤ Int.tdiv n 1000000 := by
  rw [Int.tdiv_eq_ediv_of_nonneg h0, Int.tmod_eq_emod_of_nonneg h0]
  omega
/-! ### Sums -/
/-- A loop that carries. f gives what stands at a place; it is nothing from the place n on. -/
theorem carry_run {R : Type} {body : List Int × Int × Int → Option ((List Int × Int × Int) ⊕ Out (List Int × Int × Int) R)} (n : Nat) (hn : n ≤ 1000000) (cs : List Int) (hcl : cs.length = n) (hc : ∀ x ∈ cs, 0 ≤ x ∧ x ≤ 1999998)
    (h1 : ∀ (out : List Int) (c : Int) (i : Nat) (hi : i < cs.length), out.length = i → 0 ≤ c ∧ c ≤ 1 → body (out, c, (i : Int)) = some (.inl (out ++ [Int.tmod (c + cs[i]) 1000000], Int.tdiv (c + cs[i]) 1000000, ((i + 1 : Nat) : Int))))
    (h2 : ∀ (out : List Int) (c : Int) (i : Nat), out.length = i → i ≤ n + 2 → cs.length ≤ i → 0 < c ∧ c ≤ 1 → body (out, c, (i : Int)) = some (.inl (out ++ [Int.tmod c 1000000], Int.tdiv c 1000000, ((i + 1 : Nat) : Int))))
    (h3 : ∀ (out : List Int) (i : Nat), cs.length ≤ i → body (out, 0, (i : Int)) = some (.inr (.brk (out, 0, (i : Int))))) :
    ∃ X i, run body ([], 0, 0) = some (.brk (X, 0, i)) ∧ dig X ∧ val X = val cs ∧ X.length ≤ n + 1 := by
  obtain ⟨o, ho, X, i, rfl, q1, q2, q3⟩ := run_inv (body := body) (fun s => ∃ i : Nat, s.2.2 = i ∧ s.1.length = i ∧ dig s.1 ∧ 0 ≤ s.2.1 ∧ s.2.1 ≤ 1 ∧ (i ≤ n ∨ (i = n + 1 ∧ s.2.1 = 0)) ∧ val s.1 + pw i * (s.2.1 + val (cs.drop i)) = val cs)
    (fun o => ∃ X i, o = .brk (X, 0, i) ∧ dig X ∧ val X = val cs ∧ X.length ≤ n + 1) (fun s => 2 * (n + 2 - s.2.2.toNat) + s.2.1.toNat) (by
      rintro ⟨out, c, _⟩ ⟨i, rfl, hl, hd, c0, c1, hi, hv⟩
      simp only at hl hd c0 c1 hi hv
      by_cases hlt : i < cs.length
      · left
        have hx := hc _ (List.getElem_mem hlt)
        have hN : 0 ≤ c + cs[i] := by omega
        obtain ⟨d1, d2, d3, d4⟩ := divmod hN
        refine ⟨_, h1 out c i hlt hl ⟨c0, c1⟩, ⟨i + 1, rfl, by simp [hl], dig_append hd (fun x hx => by rw [List.mem_singleton] at hx; omega), d4, ?_, ?_, ?_⟩, ?_⟩
        · show Int.tdiv (c + cs[i]) 1000000 ≤ 1
          omega
        · exact .inl (by omega)
        · show val (out ++ [Int.tmod (c + cs[i]) 1000000]) + pw (i + 1) * (Int.tdiv (c + cs[i]) 1000000 + val (cs.drop (i + 1))) = val cs
          rw [val_drop cs i hlt] at hv
          rw [val_append, val_single, hl, pw_succ]
          grind
        · show 2 * (n + 2 - (((i + 1 : Nat) : Int)).toNat) + (Int.tdiv (c + cs[i]) 1000000).toNat < 2 * (n + 2 - ((i : Int)).toNat) + c.toNat
          omega
      · have hge : cs.length ≤ i := by omega
        rw [val_drop_end cs i hge, Int.add_zero] at hv
        by_cases hcz : c = 0
        · subst hcz
          right
          refine ⟨_, h3 out i hge, out, _, rfl, hd, by rw [← hv]; simp, ?_⟩
          rw [hl]; omega
        · left
          obtain ⟨d1, d2, d3, d4⟩ := divmod c0
          have hi' : i = n := by omega
          refine ⟨_, h2 out c i hl (by omega) hge ⟨by omega, c1⟩, ⟨i + 1, rfl, by simp [hl], dig_append hd (fun x hx => by rw [List.mem_singleton] at hx; omega), d4, ?_, ?_, ?_⟩, ?_⟩
          · show Int.tdiv c 1000000 ≤ 1
            omega
          · exact .inr ⟨by omega, by show Int.tdiv c 1000000 = 0; omega⟩
          · show val (out ++ [Int.tmod c 1000000]) + pw (i + 1) * (Int.tdiv c 1000000 + val (cs.drop (i + 1))) = val cs
            rw [val_drop_end cs (i + 1) (by omega), val_append, val_single, hl, pw_succ, Int.add_zero]
            grind
          · show 2 * (n + 2 - (((i + 1 : Nat) : Int)).toNat) + (Int.tdiv c 1000000).toNat < 2 * (n + 2 - ((i : Int)).toNat) + c.toNat
            omega) ([], 0, 0) ⟨0, rfl, rfl, by simp [dig], by simp, by simp, .inl (Nat.zero_le _), by simp [val, pw_zero]⟩
  exact ⟨X, i, ho, q1, q2, q3⟩
/-- Two rows added place by place. -/
def zipS (a b : List Int) : List Int := (List.range (max a.length b.length)).map fun i => a.getD i 0 + b.getD i 0
theorem getD_dig {a : List Int} (h : dig a) (i : Nat) : 0 ≤ a.getD i 0 ∧ a.getD i 0 ≤ 999999 := by
  rw [List.getD_eq_getElem?_getD]
  cases e : a[i]? with
  | none => simp
  | some x => exact h x (List.mem_of_getElem? e)
theorem zipS_mem {a b : List Int} (ha : dig a) (hb : dig b) : ∀ x ∈ zipS a b, 0 ≤ x ∧ x ≤ 1999998 := fun x hx => by
  obtain ⟨i, _, rfl⟩ := List.mem_map.1 hx
  have := getD_dig ha i
  have := getD_dig hb i
  omega
theorem val_map_getD (a : List Int) : ∀ n k, a.length ≤ k + n → val ((List.range n).map fun i => a.getD (k + i) 0) = val (a.drop k)
  | 0, k, h => by rw [val_drop_end a k (by omega)]; rfl
  | n + 1, k, h => by
    rw [List.range_succ_eq_map, List.map_cons, List.map_map]
    have ih := val_map_getD a n (k + 1) (by omega)
    have e : (List.map ((fun i => a.getD (k + i) 0) ∘ Nat.succ) (List.range n)) = List.map (fun i => a.getD (k + 1 + i) 0) (List.range n) := by
      apply List.map_congr_left
      intro i _
      show a.getD (k + (i + 1)) 0 = a.getD (k + 1 + i) 0
      congr 1; omega
    rw [e, val_cons, ih]
    by_cases hk : k < a.length
    · rw [List.drop_eq_getElem_cons hk]
      show a.getD (k + 0) 0 + _ = a[k] + 1000000 * val (a.drop (k + 1))
      rw [Nat.add_zero, List.getD_eq_getElem?_getD, List.getElem?_eq_getElem hk]; rfl
    · rw [List.drop_eq_nil_of_le (by omega), List.drop_eq_nil_of_le (by omega), List.getD_eq_getElem?_getD, List.getElem?_eq_none (by omega)]; rfl
theorem val_map_add (f g : Nat → Int) : ∀ l : List Nat, val (l.map fun i => f i + g i) = val (l.map f) + val (l.map g)
  | [] => rfl
  | x :: l => by
    rw [List.map_cons, List.map_cons, List.map_cons, val_cons, val_cons, val_cons, val_map_add f g l]
    grind
theorem val_zipS (a b : List Int) : val (zipS a b) = val a + val b := by
  unfold zipS
  rw [val_map_add (fun i => a.getD i 0) (fun i => b.getD i 0)]
  have h1 := val_map_getD a (max a.length b.length) 0 (by omega)
  have h2 := val_map_getD b (max a.length b.length) 0 (by omega)
  simp only [Nat.zero_add, List.drop_zero] at h1 h2
  rw [h1, h2]
theorem zipS_len (a b : List Int) : (zipS a b).length = max a.length b.length := by simp [zipS]
theorem zipS_get (a b : List Int) (i : Nat) (h : i < (zipS a b).length) : (zipS a b)[i] = a.getD i 0 + b.getD i 0 := by simp [zipS]
theorem getD_lt {a : List Int} {i : Nat} (h : i < a.length) : a.getD i 0 = a[i] := by rw [List.getD_eq_getElem?_getD, List.getElem?_eq_getElem h]; rfl
theorem getD_ge {a : List Int} {i : Nat} (h : a.length ≤ i) : a.getD i 0 = 0 := by rw [List.getD_eq_getElem?_getD, List.getElem?_eq_none h]; rfl
theorem impl_carried (cs : List Int) (hl : cs.length ≤ 100000) (hc : ∀ x ∈ cs, 0 ≤ x ∧ x ≤ 1999998) : ∃ X, F_impl_carried cs = some (trimL X) ∧ dig X ∧ val X = val cs ∧ X.length ≤ cs.length + 1 := by
  obtain ⟨X, i, hr, q1, q2, q3⟩ := carry_run (body := F_impl_carried_L1 cs) cs.length (by omega) cs rfl hc (fun out c i hi hl hc' => by
    have hx := hc _ (List.getElem_mem hi)
    have hdm := divmod (n := c + cs[i]) (by omega)
    unfold F_impl_carried_L1
    simp only [Int.ofNat_lt]
    rw [decide_eq_true hi]
    simp only [cond_true, bnd_some_eq, Out.elim, idx_nat hi]
    rw [w64_in (n := c + cs[i]) (by omega) (by omega), app_ok (by simp; omega), bnd_some_eq, w64_in (by omega) (by omega), w64_nat1 (by omega)])
    (fun out c i hl hi hge hc' => by
      have hdm := divmod (n := c) (by omega)
      unfold F_impl_carried_L1
      simp only [Int.ofNat_lt]
      rw [decide_eq_false (by omega : ¬ i < cs.length)]
      simp only [cond_false, bnd_some_eq, Out.elim]
      rw [decide_eq_true hc'.1, cond_true, app_ok (by simp; omega), bnd_some_eq, w64_in (by omega) (by omega), w64_nat1 (by omega)])
    (fun out i hge => by
      unfold F_impl_carried_L1
      simp only [Int.ofNat_lt]
      rw [decide_eq_false (by omega : ¬ i < cs.length)]
      rfl)
  refine ⟨X, ?_, q1, q2, q3⟩
  unfold F_impl_carried
  rw [hr]
  simp only [bnd_some_eq, Out.elim]
  rw [impl_trimmed X (by omega), bnd_some_eq]
theorem impl_add (a b : List Int) (ha : dig a) (hb : dig b) (la : a.length ≤ 50000) (lb : b.length ≤ 50000) : ∃ X, F_impl_add a b = some (trimL X) ∧ dig X ∧ val X = val a + val b ∧ X.length ≤ max a.length b.length + 1 := by
  obtain ⟨X, hX, q1, q2, q3⟩ := impl_carried (zipS a b) (by rw [zipS_len]; omega) (zipS_mem ha hb)
  refine ⟨X, ?_, q1, by rw [q2, val_zipS], by rw [zipS_len] at q3; exact q3⟩
  unfold F_impl_add
  have em : (if (b.length : Int) > (a.length : Int) then (b.length : Int) else (a.length : Int)) = ((max a.length b.length : Nat) : Int) := by
    split <;> omega
  rw [em, mke_nat (by omega), bnd_some_eq]
  have hcp : ∀ k, (cpy (List.replicate (max a.length b.length) (0 : Int)) a)[k]? = if k < max a.length b.length then some (a.getD k 0) else none := by
    intro k
    unfold cpy
    rw [List.length_replicate, Nat.min_eq_right (by omega), List.take_length]
    by_cases h1 : k < a.length
    · rw [List.getElem?_append_left h1, if_pos (by omega), List.getElem?_eq_getElem h1, getD_lt h1]
    · rw [List.getElem?_append_right (by omega), List.getElem?_drop]
      by_cases h2 : k < max a.length b.length
      · rw [if_pos h2, getD_ge (by omega), List.getElem?_eq_getElem (by simp; omega)]
        simp
      · rw [if_neg h2, List.getElem?_eq_none (by simp; omega)]
  obtain ⟨o, ho, j, rfl⟩ := run_inv (body := F_impl_add_L1 b) (fun s => ∃ i : Nat, s.2 = i ∧ i ≤ b.length ∧ ∀ k, s.1[k]? = if k < max a.length b.length then some (a.getD k 0 + if k < i then b.getD k 0 else 0) else none)
    (fun o => ∃ j, o = .brk (zipS a b, j)) (fun s => b.length - s.2.toNat) (by
      rintro ⟨l, _⟩ ⟨i, rfl, hi, hk⟩
      simp only at hk
      by_cases he : i < b.length
      · left
        have hki := hk i
        rw [if_pos (by omega), if_neg (by omega), Int.add_zero] at hki
        have hlt : i < l.length := (List.getElem?_eq_some_iff.1 hki).1
        have hli : l[i] = a.getD i 0 := (List.getElem?_eq_some_iff.1 hki).2
        have ga := getD_dig ha i
        have gb := hb _ (List.getElem_mem he)
        refine ⟨(l.set i (a.getD i 0 + b[i]), ((i + 1 : Nat) : Int)), ?_, ⟨i + 1, rfl, by omega, fun k => ?_⟩, ?_⟩
        · unfold F_impl_add_L1
          simp only [Int.ofNat_lt]
          rw [decide_eq_true he, cond_true, idx_nat he, bnd_some_eq, idx_nat hlt, bnd_some_eq, bnd_some_eq, hli, w64_in (by omega) (by omega), w64_nat1 (by omega), Int.toNat_natCast]
        · show (l.set i (a.getD i 0 + b[i]))[k]? = _
          rw [List.getElem?_set]
          by_cases e : i = k
          · subst e
            rw [if_pos rfl, if_pos hlt, if_pos (by omega), if_pos (by omega), getD_lt he]
          · rw [if_neg e, hk k]
            by_cases hk1 : k < i
            · rw [if_pos hk1, if_pos (by omega : k < i + 1)]
            · rw [if_neg hk1, if_neg (by omega : ¬ k < i + 1)]
        · show b.length - (((i + 1 : Nat) : Int)).toNat < b.length - ((i : Int)).toNat
          omega
      · right
        have hib : i = b.length := by omega
        refine ⟨Out.brk (l, (i : Int)), by unfold F_impl_add_L1; simp only [Int.ofNat_lt]; rw [decide_eq_false he]; rfl, (i : Int), ?_⟩
        have : l = zipS a b := List.ext_getElem? fun k => by
          rw [hk k]
          by_cases h1 : k < max a.length b.length
          · rw [if_pos h1, List.getElem?_eq_getElem (by rw [zipS_len]; exact h1), zipS_get]
            by_cases h2 : k < i
            · rw [if_pos h2]
            · rw [if_neg h2, getD_ge (a := b) (by omega)]
          · rw [if_neg h1, List.getElem?_eq_none (by rw [zipS_len]; omega)]
        rw [this]) (cpy (List.replicate (max a.length b.length) (0 : Int)) a, 0) ⟨0, rfl, Nat.zero_le _, fun k => by rw [hcp k]; simp⟩
  rw [ho]
  simp only [bnd_some_eq, Out.elim, hX]
/-! ### Products -/
/-- One row of a product. -/
theorem mul_inner {R : Type} {body : List Int × Int × Int → Option ((List Int × Int × Int) ⊕ Out (List Int × Int × Int) R)} (n i : Nat) (ai : Int) (b : List Int) (hb : dig b) (hai : 0 ≤ ai ∧ ai ≤ 999999) (hn : i + b.length < n) (out0 : List Int) (hd0 : dig out0) (hl0 : out0.length = n)
    (hT : val out0 + ai * pw i * val b < pw (i + b.length + 1))
    (h1 : ∀ (out : List Int) (c : Int) (j : Nat) (hj : j < b.length) (hi : i + j < out.length), out.length = n → dig out → 0 ≤ c ∧ c ≤ 999999 → body (out, c, (j : Int)) = some (.inl (out.set (i + j) (Int.tmod (out[i + j] + c + ai * b[j]) 1000000), Int.tdiv (out[i + j] + c + ai * b[j]) 1000000, ((j + 1 : Nat) : Int))))
    (h2 : ∀ (out : List Int) (c : Int) (j : Nat) (hi : i + j < out.length), b.length ≤ j → out.length = n → dig out → 0 < c ∧ c ≤ 999999 → body (out, c, (j : Int)) = some (.inl (out.set (i + j) (Int.tmod (out[i + j] + c) 1000000), Int.tdiv (out[i + j] + c) 1000000, ((j + 1 : Nat) : Int))))
    (h3 : ∀ (out : List Int) (j : Nat), b.length ≤ j → body (out, 0, (j : Int)) = some (.inr (.brk (out, 0, (j : Int))))) :
    ∃ X j, run body (out0, 0, 0) = some (.brk (X, 0, j)) ∧ dig X ∧ X.length = n ∧ val X = val out0 + ai * pw i * val b := by
  obtain ⟨o, ho, X, j, rfl, q1, q2, q3⟩ := run_inv (body := body) (fun s => ∃ j : Nat, s.2.2 = j ∧ s.1.length = n ∧ dig s.1 ∧ 0 ≤ s.2.1 ∧ s.2.1 ≤ 999999 ∧ val s.1 + s.2.1 * pw (i + j) = val out0 + ai * pw i * val (b.take j))
    (fun o => ∃ X j, o = .brk (X, 0, j) ∧ dig X ∧ X.length = n ∧ val X = val out0 + ai * pw i * val b) (fun s => b.length + 2 - s.2.2.toNat) (by
      rintro ⟨out, c, _⟩ ⟨j, rfl, hl, hd, c0, c1, hv⟩
      simp only at hl hd c0 c1 hv
      by_cases hlt : j < b.length
      · left
        have hi : i + j < out.length := by omega
        have hbj := hb _ (List.getElem_mem hlt)
        have hy := hd _ (List.getElem_mem hi)
        have hp0 : 0 ≤ ai * b[j] := Int.mul_nonneg hai.1 hbj.1
        have hp1 : ai * b[j] ≤ 999999 * 999999 := Int.mul_le_mul hai.2 hbj.2 hbj.1 (by decide)
        have hN : 0 ≤ out[i + j] + c + ai * b[j] := by omega
        obtain ⟨d1, d2, d3, d4⟩ := divmod hN
        refine ⟨_, h1 out c j hlt hi hl hd ⟨c0, c1⟩, ⟨j + 1, rfl, by simpa using hl, dig_set hd ⟨d2, d3⟩, d4, ?_, ?_⟩, ?_⟩
        · show Int.tdiv (out[i + j] + c + ai * b[j]) 1000000 ≤ 999999
          omega
        · show val (out.set (i + j) (Int.tmod (out[i + j] + c + ai * b[j]) 1000000)) + Int.tdiv (out[i + j] + c + ai * b[j]) 1000000 * pw (i + (j + 1)) = _
          rw [val_set out (i + j) _ hi, ← Nat.add_assoc, pw_succ, val_take_succ b j hlt]
          have hp := pw_add i j
          generalize Int.tmod (out[i + j] + c + ai * b[j]) 1000000 = r at *
          generalize Int.tdiv (out[i + j] + c + ai * b[j]) 1000000 = q at *
          generalize out[i + j] = y at *
          generalize b[j] = bj at *
          generalize pw (i + j) = p at *
          grind
        · show b.length + 2 - (((j + 1 : Nat) : Int)).toNat < b.length + 2 - ((j : Int)).toNat
          omega
      · have hge : b.length ≤ j := by omega
        rw [List.take_of_length_le hge] at hv
        by_cases hcz : c = 0
        · subst hcz
          right
          exact ⟨_, h3 out j hge, out, _, rfl, hd, hl, by rw [← hv]; simp⟩
        · left
          have hjl : j ≤ b.length := by
            refine Classical.byContradiction fun hn' => ?_
            have h5 : pw (i + b.length + 1) ≤ pw (i + j) := pw_le (by omega)
            have h6 := val_nonneg hd
            have h7 := pw_pos (i + j)
            have h8 : pw (i + j) ≤ c * pw (i + j) := by
              have := Int.mul_le_mul_of_nonneg_right (show (1 : Int) ≤ c by omega) (Int.le_of_lt h7)
              rwa [Int.one_mul] at this
            omega
          have hi : i + j < out.length := by omega
          have hy := hd _ (List.getElem_mem hi)
          obtain ⟨d1, d2, d3, d4⟩ := divmod (n := out[i + j] + c) (by omega)
          refine ⟨_, h2 out c j hi hge hl hd ⟨by omega, c1⟩, ⟨j + 1, rfl, by simpa using hl, dig_set hd ⟨d2, d3⟩, d4, ?_, ?_⟩, ?_⟩
          · show Int.tdiv (out[i + j] + c) 1000000 ≤ 999999
            omega
          · show val (out.set (i + j) (Int.tmod (out[i + j] + c) 1000000)) + Int.tdiv (out[i + j] + c) 1000000 * pw (i + (j + 1)) = _
            rw [val_set out (i + j) _ hi, ← Nat.add_assoc, pw_succ, List.take_of_length_le (by omega)]
            generalize Int.tmod (out[i + j] + c) 1000000 = r at *
            generalize Int.tdiv (out[i + j] + c) 1000000 = q at *
            generalize out[i + j] = y at *
            generalize pw (i + j) = p at *
            grind
          · show b.length + 2 - (((j + 1 : Nat) : Int)).toNat < b.length + 2 - ((j : Int)).toNat
            omega) (out0, 0, 0) ⟨0, rfl, hl0, hd0, by simp, by simp, by simp [val]⟩
  exact ⟨X, j, ho, q1, q2, q3⟩
/-- The rows of a product. -/
theorem mul_outer {R : Type} {body : List Int × Int → Option ((List Int × Int) ⊕ Out (List Int × Int) R)} (n : Nat) (a b : List Int) (ha : dig a) (hb : dig b) (hn : a.length + b.length ≤ n) (hn1 : n ≤ 1048576)
    (h1 : ∀ (out : List Int) (i : Nat) (hi : i < a.length), dig out → out.length = n → val out + a[i] * pw i * val b < pw (i + b.length + 1) → ∃ X, body (out, (i : Int)) = some (.inl (X, ((i + 1 : Nat) : Int))) ∧ dig X ∧ X.length = n ∧ val X = val out + a[i] * pw i * val b)
    (h2 : ∀ out, body (out, (a.length : Int)) = some (.inr (.brk (out, (a.length : Int))))) :
    ∃ X, run body (List.replicate n 0, 0) = some (.brk (X, (a.length : Int))) ∧ dig X ∧ X.length = n ∧ val X = val a * val b := by
  obtain ⟨o, ho, X, rfl, q1, q2, q3⟩ := run_inv (body := body) (fun s => ∃ i : Nat, s.2 = i ∧ i ≤ a.length ∧ dig s.1 ∧ s.1.length = n ∧ val s.1 = val (a.take i) * val b)
    (fun o => ∃ X, o = .brk (X, (a.length : Int)) ∧ dig X ∧ X.length = n ∧ val X = val a * val b) (fun s => a.length - s.2.toNat) (by
      rintro ⟨out, _⟩ ⟨i, rfl, hi, hd, hl, hv⟩
      simp only at hd hl hv
      by_cases he : i < a.length
      · left
        have ht := val_take_succ a i he
        have hlt : val (a.take (i + 1)) < pw (i + 1) := by
          have := val_lt (dig_take ha (i + 1))
          rwa [List.length_take, Nat.min_eq_left (by omega)] at this
        have h0 := val_nonneg (dig_take ha (i + 1))
        have hb0 := val_nonneg hb
        have hb1 := val_lt hb
        have hT : val out + a[i] * pw i * val b < pw (i + b.length + 1) := by
          have e : val out + a[i] * pw i * val b = val (a.take (i + 1)) * val b := by rw [hv, ht]; grind
          have e2 : pw (i + b.length + 1) = pw (i + 1) * pw b.length := by rw [← pw_add]; congr 1; omega
          rw [e, e2]
          have p1 := pw_pos (i + 1)
          have p2 := pw_pos b.length
          have m1 : val (a.take (i + 1)) * val b ≤ val (a.take (i + 1)) * pw b.length := Int.mul_le_mul_of_nonneg_left (Int.le_of_lt hb1) h0
          have m2 : val (a.take (i + 1)) * pw b.length < pw (i + 1) * pw b.length := Int.mul_lt_mul_of_pos_right hlt p2
          omega
        obtain ⟨X, hX, x1, x2, x3⟩ := h1 out i he hd hl hT
        refine ⟨_, hX, ⟨i + 1, rfl, by omega, x1, x2, ?_⟩, ?_⟩
        · show val X = val (a.take (i + 1)) * val b
          rw [x3, hv, ht]; grind
        · show a.length - (((i + 1 : Nat) : Int)).toNat < a.length - ((i : Int)).toNat
          omega
      · right
        obtain rfl : i = a.length := by omega
        rw [List.take_length] at hv
        exact ⟨_, h2 out, out, rfl, hd, hl, hv⟩) (List.replicate n 0, 0) ⟨0, rfl, Nat.zero_le _, dig_zeros n, by simp, by simp [val_zeros, val]⟩
  exact ⟨X, ho, q1, q2, q3⟩
theorem impl_mul (a b : List Int) (ha : dig a) (hb : dig b) (la : a.length ≤ 50000) (lb : b.length ≤ 50000) : ∃ X, F_impl_multiply a b = some (trimL X) ∧ dig X ∧ val X = val a * val b ∧ X.length = a.length + b.length := by
  obtain ⟨X, hr, q1, q2, q3⟩ := mul_outer (body := F_impl_multiply_L1 a b) (a.length + b.length) a b ha hb (by omega) (by omega) (fun out i hi hd hl hT => by
    have hai := ha _ (List.getElem_mem hi)
    obtain ⟨Y, j, hr, y1, y2, y3⟩ := mul_inner (body := F_impl_multiply_L2 b (out, (i : Int)) a[i]) (a.length + b.length) i a[i] b hb hai (by omega) out hd hl hT (fun o c j hj hij ol od hc => by
      have hbj := hb _ (List.getElem_mem hj)
      have hy := od _ (List.getElem_mem hij)
      have hp0 : 0 ≤ a[i] * b[j] := Int.mul_nonneg hai.1 hbj.1
      have hp1 : a[i] * b[j] ≤ 999999 * 999999 := Int.mul_le_mul hai.2 hbj.2 hbj.1 (by decide)
      have hdm := divmod (n := o[i + j] + c + a[i] * b[j]) (by omega)
      unfold F_impl_multiply_L2
      simp only [Int.ofNat_lt]
      rw [decide_eq_true hj, cond_true]
      simp only [bnd_some_eq, Out.elim, cond_true]
      rw [w64_add (by omega), idx_nat hij, bnd_some_eq, idx_nat hj, bnd_some_eq, bnd_some_eq, Int.toNat_natCast, Int.add_comm c, w64_in (n := o[i + j] + c) (by omega) (by omega), w64_in (n := a[i] * b[j]) (by omega) (by omega), w64_in (n := o[i + j] + c + a[i] * b[j]) (by omega) (by omega), w64_in (by omega) (by omega), w64_nat1 (by omega)])
      (fun o c j hij hge ol od hc => by
        have hy := od _ (List.getElem_mem hij)
        have hdm := divmod (n := o[i + j] + c) (by omega)
        unfold F_impl_multiply_L2
        simp only [Int.ofNat_lt]
        rw [decide_eq_false (by omega : ¬ j < b.length), cond_false, decide_eq_true hc.1]
        simp only [bnd_some_eq, Out.elim, cond_true, cond_false]
        rw [w64_add (by omega), idx_nat hij, bnd_some_eq, bnd_some_eq, Int.toNat_natCast, Int.add_comm c, w64_in (n := o[i + j] + c) (by omega) (by omega), w64_in (by omega) (by omega), w64_nat1 (by omega)])
      (fun o j hge => by
        unfold F_impl_multiply_L2
        simp only [Int.ofNat_lt]
        rw [decide_eq_false (by omega : ¬ j < b.length)]
        rfl)
    refine ⟨Y, ?_, y1, y2, y3⟩
    unfold F_impl_multiply_L1
    simp only [Int.ofNat_lt]
    rw [decide_eq_true hi, cond_true, idx_nat hi, bnd_some_eq, hr]
    simp only [bnd_some_eq, Out.elim]
    rw [w64_nat1 (by omega)])
    (fun out => by simp [F_impl_multiply_L1])
  refine ⟨X, ?_, q1, q3, q2⟩
  unfold F_impl_multiply
  rw [w64_add (by omega), mke_nat (by omega), bnd_some_eq, hr]
  simp only [bnd_some_eq, Out.elim]
  rw [impl_trimmed X (by omega), bnd_some_eq]
end Go.Fn
