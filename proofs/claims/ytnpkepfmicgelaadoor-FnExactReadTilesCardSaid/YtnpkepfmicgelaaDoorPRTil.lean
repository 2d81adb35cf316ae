/-
  Tiles read back from their text: both readings find the one list with this text, if there is one. No program in sight. No condition.
-/
import Derived.Test.YtnpkepfmicgelaaDoorPTTxt
import Derived.Test.YtnpkepfmicgelaaDoorPSplt
import Derived.Lib.ParseIntBTie
namespace Go.Fn
open Go Go.Tc
/-! ### Numerals -/
theorem head_app {α : Type} {r l : List α} (h : r ≠ []) : (r ++ l).head? = r.head? := by
  cases r with
  | nil => exact absurd rfl h
  | cons _ _ => rfl
theorem ex_cond {α : Type} (c : Bool) {x y : Option α} (hx : ∃ q, x = some q) (hy : ∃ q, y = some q) : ∃ q, cond c x y = some q := by
  cases c
  · exact hy
  · exact hx
def isN (x : UInt8) : Bool := decide (48 ≤ x.toNat) && decide (x.toNat ≤ 57)
theorem isN_iff {x : UInt8} : isN x = true ↔ 48 ≤ x.toNat ∧ x.toNat ≤ 57 := by
  unfold isN
  rw [Bool.and_eq_true, decide_eq_true_eq, decide_eq_true_eq]
def vf (a : Nat) (l : List UInt8) : Nat := l.foldl (fun a x => 10 * a + (x.toNat - 48)) a
theorem vf_app (a : Nat) (l r : List UInt8) : vf a (l ++ r) = vf (vf a l) r := List.foldl_append ..
theorem vf_mono : ∀ (l : List UInt8) (a : Nat), a ≤ vf a l
  | [], a => Nat.le_refl _
  | x :: l, a => by
    have := vf_mono l (10 * a + (x.toNat - 48))
    show a ≤ vf (10 * a + (x.toNat - 48)) l
    omega
theorem dig_byte {k : Nat} (h : k < 10) : (UInt8.ofNat (48 + k)).toNat = 48 + k := by
  rw [UInt8.toNat_ofNat']
  exact Nat.mod_eq_of_lt (by omega)
theorem isN_dig {k : Nat} (h : k < 10) : isN (UInt8.ofNat (48 + k)) = true := by
  rw [isN_iff, dig_byte h]
  omega
theorem dec_facts : ∀ (k u : Nat), u ≤ k → ((Lib.decDigits u).all isN = true ∧ vf 0 (Lib.decDigits u) = u ∧ Lib.decDigits u ≠ [] ∧ ((Lib.decDigits u).head? = some 48 → u = 0)) := by
  intro k
  induction k with
  | zero =>
    intro u hu
    obtain rfl : u = 0 := by omega
    rw [Lib.decDigits_one (by omega)]
    exact ⟨rfl, rfl, by simp, fun _ => rfl⟩
  | succ k ih =>
    intro u hu
    by_cases h : u < 10
    · rw [Lib.decDigits_one h]
      have hb := dig_byte h
      refine ⟨by rw [List.all_cons, isN_dig h]; rfl, ?_, by simp, fun e => ?_⟩
      · show 10 * 0 + ((UInt8.ofNat (48 + u)).toNat - 48) = u
        omega
      · simp only [List.head?_cons, Option.some.injEq] at e
        have := congrArg UInt8.toNat e
        rw [hb] at this
        have : 48 + u = 48 := this
        omega
    · obtain ⟨h1, h2, h3, h4⟩ := ih (u / 10) (by omega)
      have hm : u % 10 < 10 := Nat.mod_lt _ (by omega)
      rw [Lib.decDigits, dif_neg h]
      refine ⟨by rw [List.all_append, h1, List.all_cons, isN_dig hm]; rfl, ?_, by simp, fun e => ?_⟩
      · rw [vf_app, h2]
        show 10 * (u / 10) + ((UInt8.ofNat (48 + u % 10)).toNat - 48) = u
        rw [dig_byte hm]
        omega
      · rw [head_app h3] at e
        have := h4 e
        omega
theorem dec_all (u : Nat) : (Lib.decDigits u).all isN = true := (dec_facts u u (Nat.le_refl _)).1
theorem dec_val (u : Nat) : vf 0 (Lib.decDigits u) = u := (dec_facts u u (Nat.le_refl _)).2.1
theorem dec_ne (u : Nat) : Lib.decDigits u ≠ [] := (dec_facts u u (Nat.le_refl _)).2.2.1
theorem dec_head (u : Nat) : (Lib.decDigits u).head? = some 48 → u = 0 := (dec_facts u u (Nat.le_refl _)).2.2.2
theorem dec_canon : ∀ (k : Nat) (l : List UInt8), l.length ≤ k → l.all isN = true → l ≠ [] → (l = [48] ∨ l.head? ≠ some 48) → Lib.decDigits (vf 0 l) = l
  | 0, l, hk, _, h0, _ => absurd (List.eq_nil_of_length_eq_zero (by omega)) h0
  | k + 1, l, hk, ha, h0, hc => by
    obtain ⟨r, d, rfl⟩ : ∃ r d, l = r ++ [d] := ⟨l.dropLast, l.getLast h0, (List.dropLast_concat_getLast h0).symm⟩
    rw [List.all_append, Bool.and_eq_true] at ha
    have hd : isN d = true := by simpa using ha.2
    have hd' := isN_iff.1 hd
    have hdd : UInt8.ofNat (48 + (d.toNat - 48)) = d := by
      apply UInt8.toNat_inj.1
      rw [dig_byte (by omega)]
      omega
    rw [vf_app]
    show Lib.decDigits (10 * vf 0 r + (d.toNat - 48)) = r ++ [d]
    by_cases hr : r = []
    · subst hr
      rw [show 10 * vf 0 [] + (d.toNat - 48) = d.toNat - 48 by simp [vf], Lib.decDigits_one (by omega), hdd]
      rfl
    · have hlen : 1 ≤ r.length := by
        cases r with
        | nil => exact absurd rfl hr
        | cons _ _ => simp
      have hh : r.head? ≠ some 48 := by
        rcases hc with e | e
        · have := congrArg List.length e
          rw [List.length_append] at this
          simp only [List.length_cons, List.length_nil] at this
          omega
        · rw [head_app hr] at e
          exact e
      have ih := dec_canon k r (by simp at hk; omega) ha.1 hr (.inr hh)
      have hp : 1 ≤ vf 0 r := by
        rcases Nat.eq_zero_or_pos (vf 0 r) with e | e
        · rw [e, Lib.decDigits_one (by omega)] at ih
          rw [← ih] at hh
          exact absurd rfl hh
        · exact e
      rw [Lib.decDigits, dif_neg (by omega), show (10 * vf 0 r + (d.toNat - 48)) / 10 = vf 0 r by omega, show (10 * vf 0 r + (d.toNat - 48)) % 10 = d.toNat - 48 by omega, ih, hdd]
/-! ### The reference's numbers -/
theorem digit_spec (x : UInt8) : F_spec_l01Digit (⟨(x.toNat : Int)⟩ : Ik .u8) = some (isN x) := by
  unfold F_spec_l01Digit isN
  by_cases h1 : 48 ≤ x.toNat
  · rw [decide_eq_true (by simp only; omega : 48 ≤ (⟨(x.toNat : Int)⟩ : Ik .u8).val), cond_true, decide_eq_true h1, Bool.true_and]
    congr 1
    rw [decide_eq_decide]
    simp only
    omega
  · rw [decide_eq_false (by simp only; omega : ¬ 48 ≤ (⟨(x.toNat : Int)⟩ : Ik .u8).val), cond_false, decide_eq_false h1, Bool.false_and]
theorem num_run (b : ByteArray) (hs : b.size ≤ 1073741824) : ∀ (k i n : Nat), i + k = b.size → k ≤ 18 → n < 10 ^ (18 - k) → run (F_spec_l01Number_L1 b) ((n : Int), (i : Int)) = some (if ((lb b).drop i).all isN = true then .brk (((vf n ((lb b).drop i) : Nat) : Int), (b.size : Int)) else .ret (0, false))
  | 0, i, n, hi, _, _ => by
    obtain rfl : i = b.size := by omega
    have hd : (lb b).drop b.size = [] := List.drop_of_length_le (by rw [lb_len]; exact Nat.le_refl _)
    rw [hd, if_pos (by rfl)]
    refine run_done ?_
    simp only [F_spec_l01Number_L1]
    rw [decide_eq_false (by omega), cond_false]
    rfl
  | k + 1, i, n, hi, hk, hn => by
    have hlt : i < (lb b).length := by rw [lb_len]; omega
    rw [List.drop_eq_getElem_cons hlt, List.all_cons]
    cases hd : isN (lb b)[i] with
    | false =>
      rw [Bool.false_and, if_neg (by simp)]
      refine run_done ?_
      simp only [F_spec_l01Number_L1]
      rw [decide_eq_true (by omega), cond_true, bidx_lb hlt, bnd_some_eq, digit_spec, hd, bnd_some_eq, Bool.not_false, cond_true]
    | true =>
      have hx := isN_iff.1 hd
      have hp : 10 ^ (18 - k) = 10 * 10 ^ (18 - (k + 1)) := by rw [show 18 - k = (18 - (k + 1)) + 1 by omega, Nat.pow_succ, Nat.mul_comm]
      have hq : 10 ^ (18 - k) ≤ 10 ^ 18 := Nat.pow_le_pow_right (by omega) (by omega)
      have hq' : (10 : Nat) ^ 18 = 1000000000000000000 := by decide
      have hb : F_spec_l01Number_L1 b ((n : Int), (i : Int)) = some (.inl (((10 * n + ((lb b)[i].toNat - 48) : Nat) : Int), ((i + 1 : Nat) : Int))) := by
        simp only [F_spec_l01Number_L1]
        rw [decide_eq_true (by omega), cond_true, bidx_lb hlt, bnd_some_eq, digit_spec, hd, bnd_some_eq, Bool.not_true, cond_false, bnd_some_eq, wk8_in (by omega) (by omega), w64_in (n := 10 * (n : Int)) (by omega) (by omega), w64_in (n := (((lb b)[i].toNat : Nat) : Int) - 48) (by omega) (by omega), w64_in (by omega) (by omega), w64_nat1 (by omega)]
        congr 3
        omega
      rw [run_next hb, num_run b hs k (i + 1) _ (by omega) (by omega) (by omega), Bool.true_and]
      rfl
def numS (l : List UInt8) : Int × Bool :=
  match l with
  | [] => (0, false)
  | c :: r =>
    if c = 45 then
      if r = [] then (0, false) else if 18 < r.length then (0, false) else if r.head? = some 48 then (0, false) else if r.all isN = true then (w64 (0 - ((vf 0 r : Nat) : Int)), true) else (0, false)
    else if 18 < r.length + 1 then (0, false) else if c = 48 ∧ r ≠ [] then (0, false) else if (c :: r).all isN = true then (((vf 0 (c :: r) : Nat) : Int), true) else (0, false)
theorem spec_num (b : ByteArray) (hs : b.size ≤ 1073741824) : F_spec_l01Number b = some (numS (lb b)) := by
  have hl := lb_len b
  unfold F_spec_l01Number
  cases hb : lb b with
  | nil =>
    rw [hb, List.length_nil] at hl
    rw [decide_eq_false (by omega), cond_false, bnd_some_eq]
    simp only [Out.elim]
    rw [decide_eq_true (by omega), cond_true, bnd_some_eq]
    rfl
  | cons c r =>
    have hl' := hl
    rw [hb, List.length_cons] at hl'
    have h0 : bidx b 0 = some ((c.toNat : Nat) : Int) := by
      have := bidx_lb (b := b) (i := 0) (by rw [hb]; simp)
      simpa [hb] using this
    rw [decide_eq_true (by omega), cond_true, h0, bnd_some_eq]
    unfold numS
    simp only
    by_cases hc : c = 45
    · subst hc
      rw [decide_eq_true (by rfl), cond_true, bnd_some_eq, if_pos rfl]
      simp only [Out.elim]
      by_cases hr : r = []
      · subst hr
        rw [decide_eq_true (by simp at hl'; omega), cond_true, bnd_some_eq, if_pos rfl]
        rfl
      · have hrl : 1 ≤ r.length := by
          cases r with
          | nil => exact absurd rfl hr
          | cons _ _ => simp
        rw [decide_eq_false (by omega), cond_false, if_neg hr, w64_in (by omega) (by omega)]
        by_cases h18 : 18 < r.length
        · rw [decide_eq_true (by omega), cond_true, bnd_some_eq, if_pos h18]
          rfl
        · have h1 : bidx b 1 = some ((r[0].toNat : Nat) : Int) := by
            have := bidx_lb (b := b) (i := 1) (by rw [hb]; simp; omega)
            simpa [hb] using this
          have hh : r.head? = some r[0] := by
            rw [List.head?_eq_getElem?, List.getElem?_eq_getElem (by omega)]
          rw [decide_eq_false (by omega), cond_false, if_neg h18, h1, bnd_some_eq, hh]
          by_cases h48 : r[0] = 48
          · rw [h48, decide_eq_true (by rfl), cond_true, decide_eq_true (by omega), cond_true, bnd_some_eq, if_pos rfl]
            rfl
          · rw [decide_eq_false (by intro e; exact h48 (UInt8.toNat_inj.1 (by show r[0].toNat = 48; omega))), cond_false, bnd_some_eq, if_neg (by simpa using h48)]
            simp only [Out.elim]
            have hrun := num_run b hs r.length 1 0 (by omega) (by omega) (Nat.pow_pos (by omega))
            rw [hb, List.drop_succ_cons, List.drop_zero] at hrun
            have hrun' : run (F_spec_l01Number_L1 b) (0, 1) = _ := hrun
            rw [hrun', bnd_some_eq]
            by_cases ha : r.all isN = true
            · rw [if_pos ha, if_pos ha]
              rfl
            · rw [if_neg ha, if_neg ha]
              rfl
    · rw [decide_eq_false (by intro e; exact hc (UInt8.toNat_inj.1 (by show c.toNat = 45; omega))), cond_false, bnd_some_eq, if_neg hc]
      simp only [Out.elim]
      rw [decide_eq_false (by omega), cond_false, w64_in (by omega) (by omega)]
      by_cases h18 : 18 < r.length + 1
      · rw [decide_eq_true (by omega), cond_true, bnd_some_eq, if_pos h18]
        rfl
      · rw [decide_eq_false (by omega), cond_false, if_neg h18, h0, bnd_some_eq]
        have hfin : bnd (run (F_spec_l01Number_L1 b) (0, 0)) (Out.elim (fun (s15 : Int × Int) => (cond (decide ((0 : Int) = 1)) (some ((w64 (0 - s15.1)), true)) (some (s15.1, true)))) (fun (r : Int × Bool) => some r)) = some (if (c :: r).all isN = true then (((vf 0 (c :: r) : Nat) : Int), true) else (0, false)) := by
          have hrun := num_run b hs (r.length + 1) 0 0 (by omega) (by omega) (Nat.pow_pos (by omega))
          rw [hb, List.drop_zero] at hrun
          have hrun' : run (F_spec_l01Number_L1 b) (0, 0) = _ := hrun
          rw [hrun', bnd_some_eq]
          by_cases ha : (c :: r).all isN = true
          · rw [if_pos ha, if_pos ha]
            rfl
          · rw [if_neg ha, if_neg ha]
            rfl
        by_cases h48 : c = 48
        · subst h48
          rw [decide_eq_true (by rfl), cond_true]
          by_cases hr : r = []
          · subst hr
            rw [decide_eq_false (by simp at hl'; omega), cond_false, bnd_some_eq, if_neg (by simp)]
            exact hfin
          · have hrl : 1 ≤ r.length := by
              cases r with
              | nil => exact absurd rfl hr
              | cons _ _ => simp
            rw [decide_eq_true (by omega), cond_true, bnd_some_eq, if_pos ⟨rfl, hr⟩]
            rfl
        · rw [decide_eq_false (by intro e; exact h48 (UInt8.toNat_inj.1 (by show c.toNat = 48; omega))), cond_false, bnd_some_eq, if_neg (fun e => h48 e.1)]
          exact hfin
theorem numS_dec {u : Nat} (h : u ≤ 9999) : numS (Lib.decDigits u) = ((u : Int), true) := by
  have h1 := dec_all u
  have h2 := dec_val u
  have h3 := dec_ne u
  have h4 := dec_head u
  have h5 : (Lib.decDigits u).length ≤ 4 := by
    have := dcT_size (x := (u : Int)) (by omega)
    unfold dcT at this
    simpa [ByteArray.size] using this
  unfold numS
  split
  · rename_i e
    exact absurd e h3
  · rename_i c r e
    rw [e] at h1 h2 h4 h5
    have hc : isN c = true := by
      rw [List.all_cons, Bool.and_eq_true] at h1
      exact h1.1
    rw [if_neg (fun e45 => by rw [e45] at hc; revert hc; decide), if_neg (by simp at h5; omega)]
    rw [if_neg]
    · rw [if_pos h1, h2]
    · rintro ⟨rfl, hr⟩
      have hu := h4 rfl
      subst hu
      rw [Lib.decDigits_one (by omega)] at e
      simp only [List.cons.injEq] at e
      exact hr e.2.symm
theorem numS_back {l : List UInt8} (h : (numS l).2 = true) (h0 : 0 ≤ (numS l).1) : l = Lib.decDigits (numS l).1.toNat := by
  unfold numS at h h0 ⊢
  split at h
  · cases h
  · rename_i c r
    simp only at h0 ⊢
    by_cases hc : c = 45
    · rw [if_pos hc] at h h0
      split at h
      · cases h
      · rename_i hr
        rw [if_neg hr] at h0
        split at h
        · cases h
        · rename_i h18
          rw [if_neg h18] at h0
          split at h
          · cases h
          · rename_i h48
            rw [if_neg h48] at h0
            split at h
            · rename_i ha
              rw [if_pos ha] at h0
              have hcan := dec_canon r.length r (Nat.le_refl _) ha hr (.inr h48)
              have hlt : vf 0 r < 10 ^ 18 := by
                have key : ∀ (r : List UInt8) (a : Nat), r.all isN = true → vf a r < (a + 1) * 10 ^ r.length := by
                  intro r
                  induction r with
                  | nil => intro a _; simp [vf]
                  | cons x r ih =>
                    intro a hx
                    rw [List.all_cons, Bool.and_eq_true] at hx
                    have hx1 := isN_iff.1 hx.1
                    have := ih (10 * a + (x.toNat - 48)) hx.2
                    show vf (10 * a + (x.toNat - 48)) r < _
                    rw [List.length_cons, Nat.pow_succ]
                    refine Nat.lt_of_lt_of_le this ?_
                    rw [Nat.mul_comm (10 ^ r.length) 10, ← Nat.mul_assoc]
                    exact Nat.mul_le_mul_right _ (by omega)
                have := key r 0 ha
                rw [Nat.zero_add, Nat.one_mul] at this
                exact Nat.lt_of_lt_of_le this (Nat.pow_le_pow_right (by omega) (by omega))
              have hq' : (10 : Nat) ^ 18 = 1000000000000000000 := by decide
              rw [w64_in (by omega) (by omega)] at h0
              have hv : vf 0 r = 0 := by omega
              rw [hv, Lib.decDigits_one (by omega)] at hcan
              rw [← hcan] at h48
              exact absurd rfl h48
            · cases h
    · rw [if_neg hc] at h h0 ⊢
      split at h
      · cases h
      · rename_i h18
        rw [if_neg h18] at h0 ⊢
        split at h
        · cases h
        · rename_i h48
          rw [if_neg h48] at h0 ⊢
          split at h
          · rename_i ha
            rw [if_pos ha]
            simp only [Int.toNat_natCast]
            refine (dec_canon (r.length + 1) (c :: r) (by simp) ha (by simp) ?_).symm
            by_cases e : c = 48
            · left
              have : r = [] := Classical.byContradiction fun hr => h48 ⟨e, hr⟩
              rw [e, this]
            · right
              simpa using e
          · cases h
/-! ### The program's numbers -/
theorem pum_ok : ∀ (l : List UInt8) (acc : Nat), l.all isN = true → vf acc l ≤ 9999 → Lib.parseUintM 18446744073709551615 acc l = .ok (vf acc l)
  | [], _, _, _ => rfl
  | c :: r, acc, ha, hv => by
    rw [List.all_cons, Bool.and_eq_true] at ha
    have hc := isN_iff.1 ha.1
    have hv' : vf (10 * acc + (c.toNat - 48)) r ≤ 9999 := hv
    have hm := vf_mono r (10 * acc + (c.toNat - 48))
    rw [Lib.parseUintM, if_pos hc, if_neg (by omega), if_neg (by omega), Nat.mul_comm acc 10, pum_ok r _ ha.2 hv']
    rfl
theorem parse_dec {u : Nat} (h : u ≤ 9999) : Lib.parseIntB 64 (Lib.decDigits u) = .ok (u : Int) := by
  have h1 := dec_all u
  have h2 := dec_val u
  have h3 := dec_ne u
  cases e : Lib.decDigits u with
  | nil => exact absurd e h3
  | cons c r =>
    rw [e] at h1 h2
    have hc : isN c = true := by
      rw [List.all_cons, Bool.and_eq_true] at h1
      exact h1.1
    have hc' := isN_iff.1 hc
    have hp : Lib.parseUintB 64 (c :: r) = .ok u := by
      unfold Lib.parseUintB
      rw [if_neg (by simp), show (2 : Nat) ^ 64 - 1 = 18446744073709551615 by decide, pum_ok _ _ h1 (by rw [h2]; exact h), h2]
    unfold Lib.parseIntB
    simp only
    rw [if_neg (by omega), hp]
    simp only
    rw [if_neg (by intro ⟨_, h'⟩; have : (2 : Nat) ^ (64 - 1) = 9223372036854775808 := by decide
                   omega), if_neg (by intro ⟨h', _⟩; omega), if_neg (by omega)]
theorem trim_ok (b : ByteArray) (hs : b.size ≤ 1073741824) : ∃ c, F_strings_TrimPrefix b (⟨#[45]⟩ : ByteArray) = some c ∧ (((lb b).head? ≠ some 45) → c = b) := by
  have hl := lb_len b
  have hz : (⟨#[45]⟩ : ByteArray).size = 1 := rfl
  unfold F_strings_TrimPrefix F_internal_stringslite_TrimPrefix F_internal_stringslite_HasPrefix
  rw [hz]
  by_cases h1 : 1 ≤ b.size
  · have hsl : bslc b 0 ((1 : Nat) : Int) = some (b.extract 0 1) := bslc_lb (i := 0) (j := 1) (by omega) h1
    have hsl2 : bslc b ((1 : Nat) : Int) (b.size : Int) = some (b.extract 1 b.size) := bslc_lb h1 (Nat.le_refl _)
    rw [decide_eq_true (by omega), cond_true, hsl, bnd_some_eq, bnd_some_eq, str_beq]
    by_cases he : b.extract 0 1 = (⟨#[45]⟩ : ByteArray)
    · rw [decide_eq_true he, cond_true, hsl2]
      refine ⟨_, rfl, fun hn => absurd ?_ hn⟩
      have := congrArg lb he
      rw [lb_extract] at this
      have h45 : lb (⟨#[45]⟩ : ByteArray) = [45] := rfl
      rw [h45] at this
      cases hb : lb b with
      | nil => rw [hb] at this; simp at this
      | cons x r => rw [hb] at this; simp at this; rw [this]; rfl
    · rw [decide_eq_false he, cond_false]
      exact ⟨_, rfl, fun _ => rfl⟩
  · rw [decide_eq_false (by omega), cond_false, bnd_some_eq, cond_false]
    exact ⟨_, rfl, fun _ => rfl⟩
theorem rdec_total (b : ByteArray) (hs : b.size ≤ 1073741824) : ∃ q, F_impl_ReadDecimal b = some q := by
  unfold F_impl_ReadDecimal
  have hp : parseG b 10 64 = some (parseR b) := by
    unfold parseG
    rw [if_pos ⟨⟨rfl, rfl⟩, by omega⟩]
  rw [hp, bnd_some_eq]
  cases hq : (parseR b).2 with
  | false => exact ⟨_, rfl⟩
  | true =>
    rw [Bool.not_true, cond_false]
    have hv : -9223372036854775808 ≤ (parseR b).1 ∧ (parseR b).1 ≤ 9223372036854775807 := by
      unfold parseR at hq ⊢
      cases h : Lib.parseIntB 64 b.data.toList with
      | ok v =>
        have := Lib.parseIntB_bounds h
        have e : ((2 ^ (64 - 1) : Nat) : Int) = 9223372036854775808 := by decide
        rw [e] at this
        simp only
        omega
      | range => rw [h] at hq; cases hq
      | _ => rw [h] at hq; cases hq
    have hd : F_impl_Decimal (parseR b).1 = some ⟨(Lib.itoa (parseR b).1).toArray⟩ := by
      unfold F_impl_Decimal fmtG
      rw [if_pos ⟨rfl, hv⟩, bnd_some_eq]
    obtain ⟨c, hc, _⟩ := trim_ok b hs
    rw [hd, bnd_some_eq, hc, bnd_some_eq]
    exact ex_cond _ ⟨_, rfl⟩ (ex_cond _ ⟨_, rfl⟩ ⟨_, rfl⟩)
theorem rdec_dec {x : Int} (h : 0 ≤ x ∧ x ≤ 9999) : F_impl_ReadDecimal (dcT x) = some (x, true) := by
  have hlb : lb (dcT x) = Lib.decDigits x.toNat := rfl
  have hsz := dcT_size h
  unfold F_impl_ReadDecimal
  have hp : parseG (dcT x) 10 64 = some (x, true) := by
    unfold parseG
    rw [if_pos ⟨⟨rfl, rfl⟩, by omega⟩]
    unfold parseR
    have := parse_dec (u := x.toNat) (by omega)
    have hlb' : (dcT x).data.toList = Lib.decDigits x.toNat := rfl
    rw [hlb', this, show ((x.toNat : Nat) : Int) = x by omega]
  have hh : (lb (dcT x)).head? ≠ some 45 := by
    rw [hlb]
    intro e
    have ha := dec_all x.toNat
    cases hd : Lib.decDigits x.toNat with
    | nil => rw [hd] at e; cases e
    | cons c r =>
      rw [hd] at e ha
      simp only [List.head?_cons, Option.some.injEq] at e
      rw [List.all_cons, e] at ha
      revert ha
      simp [isN]
  obtain ⟨c, hc, hc'⟩ := trim_ok (dcT x) (by omega)
  obtain rfl := hc' hh
  rw [hp, bnd_some_eq]
  simp only [Bool.not_true, cond_false]
  rw [impl_dcT h, bnd_some_eq, str_beq, decide_eq_true rfl, Bool.not_true, cond_false, hc, bnd_some_eq, decide_eq_false (by omega), cond_false]
/-! ### Replacing -/
theorem repl_at {a b : UInt8} (hab : a ≠ b) : ∀ (k : Nat) (s : List UInt8), Lib.count s [a] = k → Lib.replaceK [a] [b] k s = s.map fun x => if x = a then b else x := by
  have hfix : ∀ A : List UInt8, a ∉ A → A.map (fun x => if x = a then b else x) = A := by
    intro A hA
    conv => rhs; rw [← List.map_id A]
    exact List.map_congr_left fun x hx => if_neg fun e => hA (by rw [← e]; exact hx)
  intro k
  induction k with
  | zero =>
    intro s hk
    rw [Lib.replaceK, hfix]
    rw [Lib.count_one] at hk
    exact List.count_eq_zero.1 hk
  | succ k ih =>
    intro s hk
    rcases idx_one a s with ⟨h1, h2⟩ | ⟨A, B, h1, h2, h3⟩
    · rw [Lib.count_one, List.count_eq_zero.2 h2] at hk
      omega
    · have hc : Lib.count B [a] = k := by
        rw [Lib.count_one] at hk ⊢
        rw [h1, List.count_append, List.count_cons_self, List.count_eq_zero.2 h2] at hk
        omega
      rw [Lib.replaceK_hit [a] [b] k s A.length h3, h1]
      have e1 : (A ++ a :: B).take A.length = A := by simp
      have e2 : (A ++ a :: B).drop (A.length + [a].length) = B := by simp
      rw [e1, e2, ih B hc, List.map_append, hfix A h2, List.map_cons, if_pos rfl]
      simp
theorem repl_all {a b : UInt8} (hab : a ≠ b) (s : List UInt8) : Lib.replaceAll s [a] [b] = s.map fun x => if x = a then b else x := by
  unfold Lib.replaceAll Lib.replace Lib.replaceNum
  rw [if_neg (by simp [hab]), if_pos (.inl (by decide))]
  exact repl_at hab _ s rfl
theorem repl_ok (s : ByteArray) (hs : s.size ≤ 1073741824) : replG s (⟨#[46]⟩ : ByteArray) (⟨#[44]⟩ : ByteArray) = some (mkB ((lb s).map fun x => if x = 46 then 44 else x)) := by
  have h1 := Lib.countB_le (⟨#[46]⟩ : ByteArray) (Nat.le_refl 1) s.size s (Nat.le_refl _)
  have z : (⟨#[44]⟩ : ByteArray).size = 1 := rfl
  unfold replG
  rw [if_pos ⟨⟨by omega, Nat.le_refl 1⟩, by rw [z]; omega⟩]
  congr 1
  have := repl_all (a := 46) (b := 44) (by decide) s.data.toList
  show (⟨(Lib.replaceAll s.data.toList [46] [44]).toArray⟩ : ByteArray) = _
  rw [this]
  rfl
/-! ### Words -/
noncomputable def dN (b : ByteArray) : Option Int := match F_impl_ReadDecimal b with
  | some (n, true) => some n
  | _ => none
theorem decs_run (ws : List ByteArray) (hn : ws.length ≤ 1073741824) (hw : ∀ w ∈ ws, w.size ≤ 1073741824) : run (F_impl_readDecimals_L1 ws) ([], 0) = some (outO ([], false) (ws.length : Int) (mapO dN ws)) :=
  run_mapO (body := F_impl_readDecimals_L1 ws) ws hn dN ([], false) (fun i hi out ho => by
    obtain ⟨q, hq⟩ := rdec_total ws[i] (hw _ (List.getElem_mem hi))
    simp only [F_impl_readDecimals_L1]
    rw [decide_eq_true (by omega), cond_true, idx_nat hi, bnd_some_eq, hq, bnd_some_eq]
    unfold dN
    rw [hq]
    obtain ⟨n, b⟩ := q
    cases b
    · rfl
    · simp only [Bool.not_true, cond_false]
      rw [app_ok (by simp; omega), bnd_some_eq, w64_nat1 (by omega)]
      all_goals rfl) (fun out => by simp only [F_impl_readDecimals_L1]; rw [decide_eq_false (by omega), cond_false])
theorem spG_lens {b : ByteArray} {c : UInt8} (hs : b.size ≤ 1048577) : ((spG c [] (lb b)).map mkB).length ≤ 1073741824 ∧ ∀ w ∈ (spG c [] (lb b)).map mkB, w.size ≤ 1048577 := by
  have h1 := spG_len c [] (lb b)
  have h2 := spG_mem c [] (lb b)
  rw [List.length_nil, lb_len] at h2
  rw [lb_len] at h1
  refine ⟨by rw [List.length_map]; omega, fun w hw => ?_⟩
  obtain ⟨x, hx, rfl⟩ := List.mem_map.1 hw
  have := h2 x hx
  rw [← lb_len, lb_mk]
  omega
theorem dot_total (b : ByteArray) (hs : b.size ≤ 1048577) : ∃ L, F_impl_readDotted b = some L := by
  unfold F_impl_readDotted
  rw [str_beq]
  refine ex_cond _ ⟨_, rfl⟩ ?_
  · rw [repl_ok b (by omega), bnd_some_eq]
    unfold F_impl_readDecimals
    have hsz : (mkB ((lb b).map fun x => if x = 46 then 44 else x)).size ≤ 1048577 := by rw [← lb_len, lb_mk, List.length_map, lb_len]; exact hs
    have hl := spG_lens (c := 44) hsz
    rw [split_ok (by omega), bnd_some_eq, decs_run _ hl.1 fun w hw => by have := hl.2 w hw; omega, bnd_some_eq]
    cases mapO dN ((spG 44 [] (lb (mkB ((lb b).map fun x => if x = 46 then 44 else x)))).map mkB) with
    | none => exact ⟨_, rfl⟩
    | some L => exact ⟨_, rfl⟩
theorem lb_ttxt (t : GTile) : lb (ttxt t) = Lib.join [lb (dcT t.Left), lb (dcT t.Bottom), lb (dcT t.Right), lb (dcT t.Top)] [46] := by
  have ha : ∀ a b : ByteArray, lb (a ++ b) = lb a ++ lb b := blT_app
  have h46 : lb (⟨#[46]⟩ : ByteArray) = [46] := rfl
  unfold ttxt
  rw [ha, ha, ha, ha, ha, ha, h46]
  simp [Lib.join, List.intercalate]
theorem dc_no {x : Int} (c : UInt8) (hc : isN c = false) : c ∉ lb (dcT x) := by
  intro hm
  have := List.all_eq_true.1 (dec_all x.toNat) c hm
  rw [hc] at this
  cases this
theorem dot_ttxt {t : GTile} (h : TOk t) : F_impl_readDotted (ttxt t) = some [t.Left, t.Bottom, t.Right, t.Top] := by
  have hsz := ttxt_size h
  have hne : ttxt t ≠ (⟨#[45]⟩ : ByteArray) := by
    intro e
    have := congrArg lb e
    rw [lb_ttxt, Lib.join_cons] at this
    have h45 : lb (⟨#[45]⟩ : ByteArray) = [45] := rfl
    have hl := congrArg List.length this
    rw [h45] at hl
    simp [Lib.joinTail] at hl
    omega
  unfold F_impl_readDotted
  rw [str_beq, decide_eq_false hne, cond_false, repl_ok _ (by omega), bnd_some_eq]
  have hmap : (lb (ttxt t)).map (fun x => if x = 46 then (44 : UInt8) else x) = Lib.join [lb (dcT t.Left), lb (dcT t.Bottom), lb (dcT t.Right), lb (dcT t.Top)] [44] := by
    have hfix : ∀ x : Int, (lb (dcT x)).map (fun x => if x = 46 then (44 : UInt8) else x) = lb (dcT x) := by
      intro x
      conv => rhs; rw [← List.map_id (lb (dcT x))]
      exact List.map_congr_left fun y hy => if_neg fun e => dc_no (x := x) 46 (by decide) (by rw [← e]; exact hy)
    rw [lb_ttxt]
    simp only [Lib.join, List.intercalate, List.intersperse, List.flatten_cons, List.flatten_nil, List.map_append, List.map_cons, List.map_nil, hfix, if_true, List.append_nil]
  have hp : spG 44 [] (lb (mkB ((lb (ttxt t)).map fun x => if x = 46 then (44 : UInt8) else x))) = [lb (dcT t.Left), lb (dcT t.Bottom), lb (dcT t.Right), lb (dcT t.Top)] := by
    rw [lb_mk, hmap]
    exact spG_join (by simp) (by
      intro x hx
      simp only [List.mem_cons, List.not_mem_nil, or_false] at hx
      rcases hx with rfl | rfl | rfl | rfl <;> exact dc_no 44 (by decide))
  unfold F_impl_readDecimals
  have hsz2 : (mkB ((lb (ttxt t)).map fun x => if x = 46 then (44 : UInt8) else x)).size ≤ 1048577 := by rw [← lb_len, lb_mk, List.length_map, lb_len]; omega
  have hl := spG_lens (c := 44) hsz2
  rw [split_ok (by omega), bnd_some_eq, decs_run _ hl.1 fun w hw => by have := hl.2 w hw; omega, hp]
  have hd : ∀ x : Int, 0 ≤ x ∧ x ≤ 9999 → dN (mkB (lb (dcT x))) = some x := by
    intro x hx
    rw [mk_lb]
    unfold dN
    rw [rdec_dec hx]
  simp only [List.map_cons, List.map_nil, mapO]
  rw [hd _ h.l, hd _ h.b, hd _ h.r, hd _ h.t]
  rfl
noncomputable def tI (w : ByteArray) : Option GTile := match F_impl_readDotted w with
  | some [a, b, c, d] => some ⟨a, b, c, d⟩
  | _ => none
theorem tI_ttxt {t : GTile} (h : TOk t) : tI (ttxt t) = some t := by
  unfold tI
  rw [dot_ttxt h]
def nS (w : ByteArray) : Option Int := if (numS (lb w)).2 = true then some (numS (lb w)).1 else none
def tS (w : ByteArray) : Option GTile := if (spG 46 [] (lb w)).length = 4 then (match mapO nS ((spG 46 [] (lb w)).map mkB) with | some [a, b, c, d] => some ⟨a, b, c, d⟩ | _ => none) else none
theorem tS_ttxt {t : GTile} (h : TOk t) : tS (ttxt t) = some t := by
  have hp : spG 46 [] (lb (ttxt t)) = [lb (dcT t.Left), lb (dcT t.Bottom), lb (dcT t.Right), lb (dcT t.Top)] := by
    rw [lb_ttxt]
    exact spG_join (by simp) (by
      intro x hx
      simp only [List.mem_cons, List.not_mem_nil, or_false] at hx
      rcases hx with rfl | rfl | rfl | rfl <;> exact dc_no 46 (by decide))
  have hd : ∀ x : Int, 0 ≤ x ∧ x ≤ 9999 → nS (mkB (lb (dcT x))) = some x := by
    intro x hx
    have e : lb (mkB (lb (dcT x))) = Lib.decDigits x.toNat := rfl
    unfold nS
    rw [e, numS_dec (by omega), if_pos rfl, show ((x.toNat : Nat) : Int) = x by omega]
  unfold tS
  rw [hp, if_pos (by rfl)]
  simp only [List.map_cons, List.map_nil, mapO]
  rw [hd _ h.l, hd _ h.b, hd _ h.r, hd _ h.t]
  rfl
theorem tS_back {w : ByteArray} {t : GTile} (e : tS w = some t) (h : TOk t) : w = ttxt t := by
  unfold tS at e
  split at e
  · rename_i h4
    have hj := join_spG 46 [] (lb w)
    rw [List.nil_append] at hj
    generalize spG 46 [] (lb w) = L at e h4 hj
    match L, h4 with
    | [a, b, c, d], _ =>
      have hn : ∀ (l : List UInt8) (x : Int), nS (mkB l) = some x → 0 ≤ x → l = lb (dcT x) := by
        intro l x hx h0
        unfold nS at hx
        rw [lb_mk] at hx
        split at hx
        · rename_i h2
          obtain rfl := Option.some.inj hx
          exact numS_back h2 h0
        · cases hx
      simp only [List.map_cons, List.map_nil, mapO] at e
      cases h1 : nS (mkB a) with
      | none => rw [h1] at e; cases e
      | some x1 =>
        rw [h1] at e
        cases h2 : nS (mkB b) with
        | none => rw [h2] at e; cases e
        | some x2 =>
          rw [h2] at e
          cases h3 : nS (mkB c) with
          | none => rw [h3] at e; cases e
          | some x3 =>
            rw [h3] at e
            cases h4' : nS (mkB d) with
            | none => rw [h4'] at e; cases e
            | some x4 =>
              rw [h4'] at e
              simp only [Option.map_some, Option.some.injEq] at e
              subst e
              refine lb_ext ?_
              rw [lb_ttxt, ← hj, hn a x1 h1 h.l.1, hn b x2 h2 h.b.1, hn c x3 h3 h.r.1, hn d x4 h4' h.t.1]
  · cases e
theorem spec_tiles_run (ws : List ByteArray) (hn : ws.length ≤ 300) (hw : ∀ w ∈ ws, w.size ≤ 1048577) : run (F_spec_ReadTiles_L1 ws) ([], 0) = some (outO ([], false) (ws.length : Int) (mapO tS ws)) :=
  run_mapO (body := F_spec_ReadTiles_L1 ws) ws (by omega) tS ([], false) (fun i hi out ho => by
    have hs := hw _ (List.getElem_mem hi)
    have hl := spG_lens (c := 46) hs
    have hsp : F_spec_l01Split ws[i] (⟨46⟩ : Ik .u8) = some ((spG 46 [] (lb ws[i])).map mkB) := spec_split 46 rfl (by omega)
    simp only [F_spec_ReadTiles_L1]
    rw [decide_eq_true (by omega), cond_true, idx_nat hi, bnd_some_eq, hsp, bnd_some_eq, List.length_map]
    unfold tS
    by_cases h4 : (spG 46 [] (lb ws[i])).length = 4
    · rw [decide_eq_false (by omega), cond_false, if_pos h4]
      have h4' : ((spG 46 [] (lb ws[i])).map mkB).length = 4 := by rw [List.length_map]; exact h4
      have hr : run (F_spec_ReadTiles_L2 ((spG 46 [] (lb ws[i])).map mkB)) ([], 0) = some (outO ([], false) (((spG 46 [] (lb ws[i])).map mkB).length : Int) (mapO nS ((spG 46 [] (lb ws[i])).map mkB))) :=
        run_mapO (body := F_spec_ReadTiles_L2 ((spG 46 [] (lb ws[i])).map mkB)) _ hl.1 nS ([], false) (fun j hj o hoj => by
          simp only [F_spec_ReadTiles_L2]
          rw [decide_eq_true (by omega), cond_true, idx_nat hj, bnd_some_eq, spec_num _ (by have := hl.2 _ (List.getElem_mem hj); omega), bnd_some_eq]
          unfold nS
          cases hb : (numS (lb ((spG 46 [] (lb ws[i])).map mkB)[j])).2 with
          | false => rfl
          | true =>
            simp only [Bool.not_true, cond_false, if_true]
            rw [app_ok (by simp; omega), bnd_some_eq, w64_nat1 (by omega)]
            all_goals rfl) (fun o => by simp only [F_spec_ReadTiles_L2]; rw [decide_eq_false (by omega), cond_false])
      rw [hr, bnd_some_eq]
      cases hm : mapO nS ((spG 46 [] (lb ws[i])).map mkB) with
      | none => rfl
      | some L =>
        have hL := (mapO_len hm).1
        rw [h4'] at hL
        match L, hL with
        | [a, b, c, d], _ =>
          simp only [Out.elim]
          show bnd (some a) _ = _
          rw [bnd_some_eq]
          show bnd (some b) _ = _
          rw [bnd_some_eq]
          show bnd (some c) _ = _
          rw [bnd_some_eq]
          show bnd (some d) _ = _
          rw [bnd_some_eq, app_ok (by simp; omega), bnd_some_eq, w64_nat1 (by omega)]
          all_goals rfl
    · rw [decide_eq_true (by omega), cond_true, if_neg h4]
      rfl) (fun out => by simp only [F_spec_ReadTiles_L1]; rw [decide_eq_false (by omega), cond_false])
theorem impl_tiles_run (ws : List ByteArray) (hn : ws.length ≤ 1073741824) (hw : ∀ w ∈ ws, w.size ≤ 1048577) : run (F_impl_ReadTiles_L1 ws) ([], 0) = some (outO ([], false) (ws.length : Int) (mapO tI ws)) :=
  run_mapO (body := F_impl_ReadTiles_L1 ws) ws hn tI ([], false) (fun i hi out ho => by
    obtain ⟨L, hL⟩ := dot_total ws[i] (hw _ (List.getElem_mem hi))
    simp only [F_impl_ReadTiles_L1]
    rw [decide_eq_true (by omega), cond_true, idx_nat hi, bnd_some_eq, hL, bnd_some_eq]
    unfold tI
    rw [hL]
    match L with
    | [] => rfl
    | [_] => rfl
    | [_, _] => rfl
    | [_, _, _] => rfl
    | a :: b :: c :: d :: e :: r =>
      rw [decide_eq_true (by simp only [List.length_cons]; omega), cond_true]
      rfl
    | [a, b, c, d] =>
      rw [decide_eq_false (by simp), cond_false]
      show bnd (some a) _ = _
      rw [bnd_some_eq]
      show bnd (some b) _ = _
      rw [bnd_some_eq]
      show bnd (some c) _ = _
      rw [bnd_some_eq]
      show bnd (some d) _ = _
      rw [bnd_some_eq, app_ok (by simp; omega), bnd_some_eq, w64_nat1 (by omega)]
      all_goals rfl) (fun out => by simp only [F_impl_ReadTiles_L1]; rw [decide_eq_false (by omega), cond_false])
/-! ### The law -/
def tstxt (ts : List GTile) : ByteArray := mkB (Lib.join ((ts.map ttxt).map lb) [32])
theorem join_len (xs : List (List UInt8)) (hx : ∀ x ∈ xs, x.length ≤ 19) : (Lib.join xs [32]).length ≤ 20 * xs.length := by
  cases xs with
  | nil => simp [Lib.join]
  | cons x xs =>
    have key : ∀ xs : List (List UInt8), (∀ x ∈ xs, x.length ≤ 19) → (Lib.joinTail [32] xs).length ≤ 20 * xs.length := by
      intro xs
      induction xs with
      | nil => intro _; simp [Lib.joinTail]
      | cons y ys ih =>
        intro h
        have e : Lib.joinTail [32] (y :: ys) = 32 :: (y ++ Lib.joinTail [32] ys) := by simp [Lib.joinTail]
        have h1 := h y (List.mem_cons_self ..)
        have h2 := ih fun z hz => h z (List.mem_cons_of_mem _ hz)
        rw [e, List.length_cons, List.length_append, List.length_cons]
        omega
    have h1 := hx x (List.mem_cons_self ..)
    have h2 := key xs fun z hz => hx z (List.mem_cons_of_mem _ hz)
    rw [Lib.join_cons, List.length_append, List.length_cons]
    omega
theorem impl_tstxt {ts : List GTile} (h : validT ts = true) (hs : ts.length ≤ 1048576) : F_impl_TilesText ts = some (tstxt ts) := by
  obtain ⟨hl, ha⟩ := all_tok h
  unfold F_impl_TilesText
  rw [impl_valid ts hs, bnd_some_eq, h, Bool.not_true, cond_false, impl_tparts hl ha, bnd_some_eq]
  simp only [Out.elim]
  unfold joinG
  have hj := join_len ((ts.map ttxt).map lb) (by
    intro x hx
    rw [List.map_map] at hx
    obtain ⟨t, ht, rfl⟩ := List.mem_map.1 hx
    show (lb (ttxt t)).length ≤ 19
    rw [lb_len]
    exact ttxt_size (ha t ht))
  rw [List.length_map, List.length_map] at hj
  have e : Lib.join ((ts.map ttxt).map (·.data.toList)) (⟨#[32]⟩ : ByteArray).data.toList = Lib.join ((ts.map ttxt).map lb) [32] := rfl
  rw [e, if_pos ⟨by rw [List.length_map]; omega, by omega⟩, bnd_some_eq]
  rfl
theorem tparts_of {ts : List GTile} (h : validT ts = true) : (spG 32 [] (lb (tstxt ts))).map mkB = ts.map ttxt := by
  obtain ⟨hl, ha⟩ := all_tok h
  have h1 : 0 < ts.length := by
    unfold validT at h
    simp only [Bool.and_eq_true, decide_eq_true_eq] at h
    exact h.1.1.1
  unfold tstxt
  rw [lb_mk, spG_join]
  · rw [List.map_map]
    conv => rhs; rw [← List.map_id (ts.map ttxt)]
    exact List.map_congr_left fun x _ => mk_lb x
  · intro e0
    have := congrArg List.length e0
    simp at this
    rw [this] at h1
    simp at h1
  · intro x hx
    rw [List.map_map] at hx
    obtain ⟨t, ht, rfl⟩ := List.mem_map.1 hx
    show (32 : UInt8) ∉ lb (ttxt t)
    rw [lb_ttxt]
    have hd : ∀ x : Int, (32 : UInt8) ∉ lb (dcT x) := fun x => dc_no 32 (by decide)
    simp only [Lib.join, List.intercalate, List.intersperse, List.flatten_cons, List.flatten_nil, List.append_nil, List.mem_append, List.mem_singleton]
    rintro (h' | h' | h' | h' | h' | h' | h')
    · exact hd _ h'
    · revert h'; decide
    · exact hd _ h'
    · revert h'; decide
    · exact hd _ h'
    · revert h'; decide
    · exact hd _ h'
theorem impl_valid_big (ts : List GTile) (h : 300 < ts.length) : F_impl_ValidTiles ts = some false := by
  unfold F_impl_ValidTiles F_impl_size_impl_Tile
  rw [bnd_some_eq, impl_in, bnd_some_eq]
  have : inB (ts.length : Int) 1 300 = false := by
    cases hb : inB (ts.length : Int) 1 300 with
    | false => rfl
    | true =>
      have := inB_twoT.1 hb
      omega
  rw [this]
  rfl
theorem tiles_fit {ts : List GTile} (h : ts.length ≤ 1048576) : Med ts ∧ Cnt.cnt ts ≤ 1152921504606846976 := by
  refine ⟨Sml.med ⟨h, fun _ _ => trivial⟩, Nat.le_trans (cnt_le (n := 1048576) (m := 4) h fun _ _ => Nat.le_refl 4) (by decide)⟩
theorem ex_ReadTiles (s : ByteArray) (s0 : Sml s) : ∃ w : List GTile × Bool, F_spec_ReadTiles s = some w ∧ F_impl_ReadTiles s = some w ∧ Med w.1 ∧ Cnt.cnt w.1 ≤ 1152921504606846976 := by
  have hs : s.size ≤ 1048576 := s0
  have hl := spG_lens (c := 32) (show s.size ≤ 1048577 by omega)
  have hnil : Med ((([] : List GTile), false) : List GTile × Bool).1 ∧ Cnt.cnt ((([] : List GTile), false) : List GTile × Bool).1 ≤ 1152921504606846976 := tiles_fit (by simp)
  have hsp : F_spec_l01Split s (⟨32⟩ : Ik .u8) = some ((spG 32 [] (lb s)).map mkB) := spec_split 32 rfl (by omega)
  have hI : F_impl_ReadTiles s = match mapO tI ((spG 32 [] (lb s)).map mkB) with
      | none => some ([], false)
      | some L => bnd (F_impl_ValidTiles L) fun r40 => (cond (!r40) (some (([] : (List GTile)), false)) (bnd (F_impl_TilesText L) fun r43 => (cond (!(r43.toList == s.toList)) (some (([] : (List GTile)), false)) (some (L, true))))) := by
    unfold F_impl_ReadTiles
    rw [split_ok (by omega), bnd_some_eq, impl_tiles_run _ hl.1 hl.2, bnd_some_eq]
    cases mapO tI ((spG 32 [] (lb s)).map mkB) with
    | none => rfl
    | some L => rfl
  have hS1 : 300 < (spG 32 [] (lb s)).length → F_spec_ReadTiles s = some ([], false) := by
    intro h
    unfold F_spec_ReadTiles
    rw [hsp, bnd_some_eq, List.length_map, decide_eq_true (by omega), cond_true]
  have hS2 : (spG 32 [] (lb s)).length ≤ 300 → F_spec_ReadTiles s = match mapO tS ((spG 32 [] (lb s)).map mkB) with
      | none => some ([], false)
      | some L => bnd (F_spec_l33Is L) fun r57 => (cond (!r57) (some (([] : (List GTile)), false)) (some (L, true))) := by
    intro h
    unfold F_spec_ReadTiles
    rw [hsp, bnd_some_eq, decide_eq_false (by rw [List.length_map]; omega), cond_false, spec_tiles_run _ (by rw [List.length_map]; exact h) hl.2, bnd_some_eq]
    cases mapO tS ((spG 32 [] (lb s)).map mkB) with
    | none => rfl
    | some L => rfl
  by_cases hW : ∃ ts, validT ts = true ∧ tstxt ts = s
  · obtain ⟨ts, hv, ht⟩ := hW
    obtain ⟨tl, ta⟩ := all_tok hv
    have hp := tparts_of hv
    rw [ht] at hp
    have hMI : mapO tI ((spG 32 [] (lb s)).map mkB) = some ts := by
      rw [hp]
      exact mapO_all fun t hm => tI_ttxt (ta t hm)
    have hMS : mapO tS ((spG 32 [] (lb s)).map mkB) = some ts := by
      rw [hp]
      exact mapO_all fun t hm => tS_ttxt (ta t hm)
    have hn : (spG 32 [] (lb s)).length = ts.length := by
      have := congrArg List.length hp
      rwa [List.length_map, List.length_map] at this
    refine ⟨(ts, true), ?_, ?_, tiles_fit (ts := ts) (by omega)⟩
    · rw [hS2 (by omega), hMS]
      simp only
      rw [spec_is ts (by omega), bnd_some_eq, hv, Bool.not_true, cond_false]
    · rw [hI, hMI]
      simp only
      rw [impl_valid ts (by omega), bnd_some_eq, hv, Bool.not_true, cond_false, impl_tstxt hv (by omega), bnd_some_eq, str_beq, decide_eq_true ht, Bool.not_true, cond_false]
  · refine ⟨([], false), ?_, ?_, hnil⟩
    · by_cases h300 : (spG 32 [] (lb s)).length ≤ 300
      · rw [hS2 h300]
        cases hM : mapO tS ((spG 32 [] (lb s)).map mkB) with
        | none => rfl
        | some L =>
          simp only
          have m1 := (mapO_len hM).1
          rw [List.length_map] at m1
          rw [spec_is L (by omega), bnd_some_eq]
          cases hv : validT L with
          | false => rfl
          | true =>
            obtain ⟨tl, ta⟩ := all_tok hv
            have hb := mapO_back (g := ttxt) hM fun x y hxy hy => tS_back hxy (ta y hy)
            refine absurd ⟨L, hv, ?_⟩ hW
            unfold tstxt
            rw [← hb, List.map_map]
            have hid : (spG 32 [] (lb s)).map (lb ∘ mkB) = spG 32 [] (lb s) := by
              conv => rhs; rw [← List.map_id (spG 32 [] (lb s))]
              exact List.map_congr_left fun x _ => lb_mk x
            rw [hid, join_spG, List.nil_append, mk_lb]
      · exact hS1 (by omega)
    · rw [hI]
      cases hM : mapO tI ((spG 32 [] (lb s)).map mkB) with
      | none => rfl
      | some L =>
        simp only
        by_cases h300 : L.length ≤ 300
        · rw [impl_valid L (by omega), bnd_some_eq]
          cases hv : validT L with
          | false => rfl
          | true =>
            rw [Bool.not_true, cond_false, impl_tstxt hv (by omega), bnd_some_eq, str_beq, decide_eq_false (fun e => hW ⟨L, hv, e⟩)]
            rfl
        · rw [impl_valid_big L (by omega), bnd_some_eq]
          rfl
theorem law_ReadTiles (s : ByteArray) (w0 : Wf.wf s) : F_laws_FnExactReadTiles s = some true :=
  lawof_ReadTiles s w0 (ex_ReadTiles s)
end Go.Fn
