/-
  Words of matrices; the plain law of WordsOfSquare. No program in sight. No condition.
-/
import Derived.Test.YtgojoooilijiiaaPProd
namespace Go.Fn
open Go Go.Tc
/-- A division by eleven, from the last limb down. -/
theorem div_run {R : Type} {body : List Int × Int × Int → Option ((List Int × Int × Int) ⊕ Out (List Int × Int × Int) R)} (n : List Int) (hn : dig n) (hl : n.length ≤ 1000)
    (h1 : ∀ (z : List Int) (r : Int) (k : Nat) (hk : k < n.length), z.length = n.length → 0 ≤ r ∧ r ≤ 10 → body (z, r, (k : Int)) = some (.inl (z.set k (Int.tdiv (r * 1000000 + n[k]) 11), Int.tmod (r * 1000000 + n[k]) 11, (k : Int) - 1)))
    (h2 : ∀ z r, body (z, r, -1) = some (.inr (.brk (z, r, -1)))) :
    ∃ Z r, run body (List.replicate n.length 0, 0, (n.length : Int) - 1) = some (.brk (Z, r, -1)) ∧ dig Z ∧ Z.length = n.length ∧ val Z * 11 + r = val n ∧ 0 ≤ r ∧ r ≤ 10 := by
  have key : ∀ (k : Nat) (z : List Int) (r : Int), k ≤ n.length → z.length = n.length → dig z → 0 ≤ r ∧ r ≤ 10 → val (z.drop k) * 11 + r = val (n.drop k) →
      ∃ Z r', run body (z, r, (k : Int) - 1) = some (.brk (Z, r', -1)) ∧ dig Z ∧ Z.length = n.length ∧ val Z * 11 + r' = val n ∧ 0 ≤ r' ∧ r' ≤ 10 := by
    intro k
    induction k with
    | zero =>
      intro z r _ hz hd hr hv
      rw [List.drop_zero, List.drop_zero] at hv
      exact ⟨z, r, run_done (h2 z r), hd, hz, hv, hr.1, hr.2⟩
    | succ k ih =>
      intro z r hk hz hd hr hv
      have hlt : k < n.length := by omega
      have hzk : k < z.length := by omega
      have hx := hn _ (List.getElem_mem hlt)
      have e1 : Int.tdiv (r * 1000000 + n[k]) 11 = (r * 1000000 + n[k]) / 11 := Int.tdiv_eq_ediv_of_nonneg (by omega)
      have e2 : Int.tmod (r * 1000000 + n[k]) 11 = (r * 1000000 + n[k]) % 11 := Int.tmod_eq_emod_of_nonneg (by omega)
      have hb := h1 z r k hlt hz hr
      rw [show (((k + 1 : Nat) : Int) - 1) = (k : Int) by omega, run_next hb]
      refine ih _ _ (by omega) (by simpa using hz) (dig_set hd (by rw [e1]; omega)) (by rw [e2]; omega) ?_
      have d1 : (z.set k (Int.tdiv (r * 1000000 + n[k]) 11)).drop k = Int.tdiv (r * 1000000 + n[k]) 11 :: z.drop (k + 1) := by
        rw [List.drop_eq_getElem_cons (by simpa using hzk)]
        congr 1
        · simp
        · apply List.ext_getElem?
          intro j
          rw [List.getElem?_drop, List.getElem?_drop, List.getElem?_set_ne (by omega)]
      rw [d1, val_cons, val_drop n k hlt, e1, e2]
      generalize val (z.drop (k + 1)) = a at *
      generalize val (n.drop (k + 1)) = b at *
      omega
  obtain ⟨Z, r, q⟩ := key n.length (List.replicate n.length 0) 0 (Nat.le_refl _) (by simp) (dig_zeros _) (by decide) (by rw [val_drop_end _ _ (by simp), val_drop_end _ _ (Nat.le_refl _)]; rfl)
  exact ⟨Z, r, q⟩
theorem nz11 : nz 11 = some () := rfl
theorem impl_by (n : List Int) (hn : dig n) (hl : n.length ≤ 1000) : F_impl_divideSmall n 11 = some (enc (val n / 11), val n % 11) := by
  unfold F_impl_divideSmall
  obtain ⟨Z, r, h1, h2, h3, h4, h5, h6⟩ := div_run (body := F_impl_divideSmall_L1 n 11) n hn hl (fun z r k hk hz hr => by
    have hx := hn _ (List.getElem_mem hk)
    have hzk : k < z.length := by omega
    have e1 : Int.tdiv (r * 1000000 + n[k]) 11 = (r * 1000000 + n[k]) / 11 := Int.tdiv_eq_ediv_of_nonneg (by omega)
    unfold F_impl_divideSmall_L1
    simp only []
    rw [decide_eq_true (by omega), cond_true, idx_nat hk, bnd_some_eq, nz11, bnd_some_eq, bnd_some_eq, idx_nat hzk, bnd_some_eq, w64_in (n := r * 1000000) (by omega) (by omega), w64_in (n := r * 1000000 + n[k]) (by omega) (by omega), w64_in (by omega) (by omega), Int.toNat_natCast, w64_in (by omega) (by omega)]) (fun z r => rfl)
  rw [mke_nat (by omega), bnd_some_eq, w64_in (by omega) (by omega), h1]
  simp only [bnd_some_eq, Out.elim]
  rw [impl_trimmed Z (by omega), bnd_some_eq, enc_eq h2, show val n / 11 = val Z by omega, show val n % 11 = r by omega]
/-! ### Digits -/
def d11 (v : Nat) : List Int := if h : v = 0 then [] else ((v % 11 : Nat) : Int) :: d11 (v / 11)
termination_by v
theorem d11_zero : d11 0 = [] := by rw [d11]; rfl
theorem d11_pos {v : Nat} (h : v ≠ 0) : d11 v = ((v % 11 : Nat) : Int) :: d11 (v / 11) := by rw [d11, dif_neg h]
theorem d11_len : ∀ (n v : Nat), v < 11 ^ n → (d11 v).length ≤ n
  | 0, v, h => by
    obtain rfl : v = 0 := by simpa using h
    rw [d11_zero]; simp
  | n + 1, v, h => by
    by_cases h0 : v = 0
    · subst h0; rw [d11_zero]; simp
    · rw [d11_pos h0, List.length_cons]
      have := d11_len n (v / 11) (by rw [Nat.pow_succ] at h; omega)
      omega
theorem d11_mem : ∀ (n v : Nat), v < n → ∀ x ∈ d11 v, 0 ≤ x ∧ x ≤ 10
  | 0, v, h, _, _ => by omega
  | n + 1, v, h, x, hx => by
    by_cases h0 : v = 0
    · subst h0; rw [d11_zero] at hx; simp at hx
    · rw [d11_pos h0] at hx
      rcases List.mem_cons.1 hx with rfl | hx
      · omega
      · exact d11_mem n (v / 11) (by omega) x hx
theorem enc_empty {v : Nat} : (enc (v : Int)).length = 0 ↔ v = 0 := by
  constructor
  · intro h
    have := val_enc (good_nonneg v)
    rw [List.eq_nil_of_length_eq_zero h, val_nil] at this
    omega
  · intro h
    subst h
    rw [show ((0 : Nat) : Int) = 0 from rfl, enc_zero]; rfl
theorem enc_div_len (v : Nat) : (enc ((v : Int) / 11)).length ≤ (enc (v : Int)).length := len_mono (good_ge (by omega)) (good_nonneg v) (by omega)
theorem impl_digitsloop : ∀ (n v : Nat) (ds : List Int), v < n → (enc (v : Int)).length ≤ 1000 → ds.length + (d11 v).length ≤ 1048576 →
    run (F_impl_DigitsOf_L1 11) (enc (v : Int), ds) = some (.brk ([], ds ++ d11 v))
  | 0, v, _, h, _, _ => by omega
  | n + 1, v, ds, h, hl, hb => by
    by_cases h0 : v = 0
    · subst h0
      rw [show enc ((0 : Nat) : Int) = [] from enc_zero, d11_zero]
      rw [run_done (x := Out.brk ([], ds)) rfl]
      simp
    · have hne := mt enc_empty.1 h0
      have hv := val_enc (good_nonneg v)
      have hby := impl_by (enc (v : Int)) (dig_enc _) hl
      rw [hv, show (v : Int) / 11 = ((v / 11 : Nat) : Int) by omega, show (v : Int) % 11 = ((v % 11 : Nat) : Int) by omega] at hby
      have hlq : (enc ((v / 11 : Nat) : Int)).length ≤ 1000 := by
        have := enc_div_len v
        rw [show (v : Int) / 11 = ((v / 11 : Nat) : Int) by omega] at this
        omega
      rw [d11_pos h0] at hb ⊢
      rw [List.length_cons] at hb
      have hstep : F_impl_DigitsOf_L1 11 (enc (v : Int), ds) = some (.inl (enc ((v / 11 : Nat) : Int), ds ++ [((v % 11 : Nat) : Int)])) := by
        unfold F_impl_DigitsOf_L1
        simp only []
        rw [decide_eq_true (by omega), cond_true, hby, bnd_some_eq, app_ok (by simp; omega), bnd_some_eq]
      rw [run_next hstep, impl_digitsloop n (v / 11) _ (by omega) hlq (by simp; omega), List.append_assoc]
      rfl
def wordV (v : Nat) : List Int := ((d11 v).map fun x => x - 1).reverse
def noZ (v : Nat) : Bool := (d11 v).all fun x => decide (x ≠ 0)
theorem lt_pw40 {v : Nat} (h : (v : Int) < pw 40) : v < 11 ^ 240 := by
  have h1 : v < 1000000 ^ 40 := by unfold pw at h; omega
  exact Nat.lt_of_lt_of_le h1 (by decide)
theorem nat_enc {n : List Int} (h : natB n = true) : ∃ v : Nat, n = enc (v : Int) ∧ (v : Int) < pw 40 ∧ n.length ≤ 40 := by
  obtain ⟨h1, h2, h3⟩ := natB_dig h
  have h4 := val_nonneg h1
  refine ⟨(val n).toNat, ?_, ?_, h2⟩
  · rw [show (((val n).toNat : Nat) : Int) = val n by omega, ← enc_eq h1, h3]
  · have := val_lt h1
    have := pw_le h2
    omega
theorem impl_wordV {v : Nat} (h : (v : Int) < pw 40) (hl : (enc (v : Int)).length ≤ 40) (hn : natB (enc (v : Int)) = true) : F_impl_wordOfValue (enc (v : Int)) = some (wordV v) := by
  have hd := d11_len 240 v (lt_pw40 h)
  unfold F_impl_wordOfValue F_impl_DigitsOf
  rw [impl_isNat _ (by omega), hn, bnd_some_eq, impl_in]
  simp only [Bool.not_true, cond_false, bnd_some_eq]
  rw [show inB 11 2 1000000 = true from rfl]
  simp only [Bool.not_true, cond_false]
  rw [impl_digitsloop (v + 1) v [] (by omega) (by omega) (by simp; omega)]
  simp only [bnd_some_eq, Out.elim, List.nil_append]
  rw [impl_reversed _ (by omega), bnd_some_eq, impl_moved _ _ (by simp; omega), bnd_some_eq]
  unfold wordV
  rw [← List.map_reverse]
  congr 1
  apply List.map_congr_left
  intro x hx
  have := d11_mem (v + 1) v (by omega) x (by simpa using hx)
  rw [w64_in (by omega) (by omega)]; omega
end Go.Fn
