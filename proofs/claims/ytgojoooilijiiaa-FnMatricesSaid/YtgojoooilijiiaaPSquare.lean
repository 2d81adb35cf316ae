/-
  Products of matrices; the plain law of MultiplySquares. No program in sight. No condition.
-/
import Derived.Test.YtgojoooilijiiaaPBig
import Derived.Test.YtgojoooilijiiaaPDeriv
namespace Go.Fn
open Go Go.Tc
def Good (v : Int) : Prop := ∃ X, dig X ∧ val X = v
open Classical in
noncomputable def enc (v : Int) : List Int := if h : Good v then trimL h.choose else []
theorem enc_eq {X : List Int} (h : dig X) : trimL X = enc (val X) := by
  have hg : Good (val X) := ⟨X, h, rfl⟩
  unfold enc
  rw [dif_pos hg]
  exact trim_eq h hg.choose_spec.1 hg.choose_spec.2.symm
theorem dig_enc (v : Int) : dig (enc v) := by
  unfold enc
  by_cases h : Good v
  · rw [dif_pos h]; exact dig_trim h.choose_spec.1
  · rw [dif_neg h]; simp [dig]
theorem val_enc {v : Int} (h : Good v) : val (enc v) = v := by
  obtain ⟨X, hX, rfl⟩ := h
  rw [← enc_eq hX, val_trim]
theorem trim_enc (v : Int) : trimL (enc v) = enc v := by
  by_cases h : Good v
  · rw [enc_eq (dig_enc v), val_enc h]
  · unfold enc
    rw [dif_neg h]; rfl
theorem enc_zero : enc 0 = [] := by
  have := enc_eq (X := []) (by simp [dig])
  rw [val_nil] at this
  rw [← this]; rfl
theorem natB_enc (v : Int) : natB (enc v) = decide ((enc v).length ≤ 40) := by
  have := natB_trim (dig_enc v)
  rwa [trim_enc] at this
theorem good_nonneg : ∀ n : Nat, Good (n : Int) := by
  intro n
  induction n using Nat.strongRecOn with
  | ind n ih =>
    by_cases h : n = 0
    · subst h; exact ⟨[], by simp [dig], rfl⟩
    · obtain ⟨X, h1, h2⟩ := ih (n / 1000000) (by omega)
      refine ⟨((n % 1000000 : Nat) : Int) :: X, dig_cons.2 ⟨by omega, h1⟩, ?_⟩
      rw [val_cons, h2]
      omega
theorem good_ge {v : Int} (h : 0 ≤ v) : Good v := by
  obtain ⟨n, rfl⟩ : ∃ n : Nat, v = n := ⟨v.toNat, by omega⟩
  exact good_nonneg n
theorem good_pos {v : Int} (h : Good v) : 0 ≤ v := by
  obtain ⟨X, h1, rfl⟩ := h
  exact val_nonneg h1
theorem enc_bound {u : Int} (hu : Good u) {n : Nat} (h : u < pw n) : (enc u).length ≤ n := by
  refine Classical.byContradiction fun hn => ?_
  have h2 : pw ((enc u).length - 1) ≤ val (enc u) := by
    rcases snoc_cases (enc u) with he | ⟨ys, y, he⟩
    · rw [he] at hn; simp at hn
    · have hlast : y ≠ 0 := by
        intro hy
        have := trim_enc u
        rw [he, trimL_snoc, if_pos hy] at this
        have h3 := trimL_len ys
        rw [this] at h3
        rw [List.length_append, List.length_singleton] at h3
        omega
      have hd := dig_enc u
      rw [he] at hd
      have hy := hd y (by simp)
      have hys : dig ys := fun x hx => hd x (by simp [hx])
      have h4 := val_nonneg hys
      rw [he, val_append, val_single, List.length_append, List.length_singleton, Nat.add_sub_cancel]
      have h5 := pw_pos ys.length
      have h6 : pw ys.length ≤ pw ys.length * y := by
        have := Int.mul_le_mul_of_nonneg_left (show (1 : Int) ≤ y by omega) (Int.le_of_lt h5)
        rwa [Int.mul_one] at this
      omega
  rw [val_enc hu] at h2
  have h7 : pw n ≤ pw ((enc u).length - 1) := pw_le (by omega)
  omega
theorem mulE_good (a b : List Int) (ha : dig a) (hb : dig b) : Good (val a * val b) ∧ (enc (val a * val b)).length ≤ a.length + b.length + 1 := by
  have h1 := val_nonneg ha
  have h2 := val_nonneg hb
  have h3 := val_lt ha
  have h4 := val_lt hb
  have hg : Good (val a * val b) := good_ge (Int.mul_nonneg h1 h2)
  refine ⟨hg, enc_bound hg ?_⟩
  have h5 : val a * val b ≤ pw a.length * pw b.length := Int.mul_le_mul (Int.le_of_lt h3) (Int.le_of_lt h4) h2 (Int.le_of_lt (pw_pos _))
  rw [← pw_add] at h5
  have h6 := pw_pos (a.length + b.length)
  rw [pw_succ]
  omega
theorem addE_good (a b : List Int) (ha : dig a) (hb : dig b) : Good (val a + val b) ∧ (enc (val a + val b)).length ≤ max a.length b.length + 1 := by
  have h1 := val_nonneg ha
  have h2 := val_nonneg hb
  have h3 := val_lt ha
  have h4 := val_lt hb
  have hg : Good (val a + val b) := good_ge (by omega)
  refine ⟨hg, enc_bound hg ?_⟩
  have h5 : pw a.length ≤ pw (max a.length b.length) := pw_le (by omega)
  have h6 : pw b.length ≤ pw (max a.length b.length) := pw_le (by omega)
  rw [pw_succ]
  omega
theorem impl_mulE (a b : List Int) (ha : dig a) (hb : dig b) (la : a.length ≤ 50000) (lb : b.length ≤ 50000) : F_impl_multiply a b = some (enc (val a * val b)) := by
  obtain ⟨X, h1, h2, h3, h4⟩ := impl_mul a b ha hb la lb
  rw [enc_eq h2, h3] at h1
  exact h1
theorem impl_addE (a b : List Int) (ha : dig a) (hb : dig b) (la : a.length ≤ 50000) (lb : b.length ≤ 50000) : F_impl_add a b = some (enc (val a + val b)) := by
  obtain ⟨X, h1, h2, h3, h4⟩ := impl_add a b ha hb la lb
  rw [enc_eq h2, h3] at h1
  exact h1
/-! ### Matrices -/
def at9 (a : List (List Int)) (i : Nat) : List Int := a.getD i []
def ent (a b : List (List Int)) (i k : Nat) : Int := 0 + val (at9 a (3 * i)) * val (at9 b k) + val (at9 a (3 * i + 1)) * val (at9 b (3 + k)) + val (at9 a (3 * i + 2)) * val (at9 b (6 + k))
noncomputable def prodL (a b : List (List Int)) : List (List Int) := (List.range 3).flatMap fun i => (List.range 3).flatMap fun k => [enc (ent a b i k)]
def Mat (m : Nat) (a : List (List Int)) : Prop := a.length = 9 ∧ ∀ x ∈ a, dig x ∧ x.length ≤ m
theorem Mat.at {m : Nat} {a : List (List Int)} (h : Mat m a) (i : Nat) : dig (at9 a i) ∧ (at9 a i).length ≤ m := by
  unfold at9
  rw [List.getD_eq_getElem?_getD]
  cases e : a[i]? with
  | none => exact ⟨by simp [dig], Nat.zero_le _⟩
  | some x => exact h.2 x (List.mem_of_getElem? e)
theorem idx9 {m : Nat} {a : List (List Int)} (h : Mat m a) {i : Nat} (hi : i < 9) : idx a (i : Int) = some (at9 a i) := by
  rw [idx_nat (by rw [h.1]; exact hi)]
  unfold at9
  rw [List.getD_eq_getElem?_getD, List.getElem?_eq_getElem]; rfl
/-- Three steps of a loop. -/
theorem run3 {S X : Type} {body : S → Option (S ⊕ X)} {s0 s1 s2 s3 : S} {x : X} (h0 : body s0 = some (.inl s1)) (h1 : body s1 = some (.inl s2)) (h2 : body s2 = some (.inl s3)) (h3 : body s3 = some (.inr x)) : run body s0 = some x := by
  rw [run_next h0, run_next h1, run_next h2, run_done h3]
theorem ent_run {R : Type} {body : List Int × Int → Option ((List Int × Int) ⊕ Out (List Int × Int) R)} (m : Nat) (hm : m ≤ 10000) (a b : List (List Int)) (ha : Mat m a) (hb : Mat m b) (i k : Nat) (hi : i < 3) (hk : k < 3)
    (h1 : ∀ (s : List Int) (n : Nat), n < 3 → dig s → s.length ≤ 40000 → body (s, (n : Int)) = some (.inl (enc (val s + val (at9 a (3 * i + n)) * val (at9 b (3 * n + k))), ((n + 1 : Nat) : Int))))
    (h2 : ∀ s, body (s, 3) = some (.inr (.brk (s, 3)))) : run body ([], 0) = some (.brk (enc (ent a b i k), 3)) ∧ Good (ent a b i k) ∧ (enc (ent a b i k)).length ≤ 2 * m + 4 := by
  have hmul : ∀ n, Good (val (at9 a (3 * i + n)) * val (at9 b (3 * n + k))) ∧ (enc (val (at9 a (3 * i + n)) * val (at9 b (3 * n + k)))).length ≤ 2 * m + 1 := fun n => by
    have g1 := ha.at (3 * i + n)
    have g2 := hb.at (3 * n + k)
    obtain ⟨q1, q2⟩ := mulE_good _ _ g1.1 g2.1
    exact ⟨q1, by omega⟩
  have hadd : ∀ v n, Good v → (enc v).length ≤ 2 * m + 1 + n → n ≤ 3 → ∀ w, Good w → (enc w).length ≤ 2 * m + 1 → Good (v + w) ∧ (enc (v + w)).length ≤ 2 * m + 1 + (n + 1) := fun v n hv hl hn w hw hlw => by
    obtain ⟨q1, q2⟩ := addE_good (enc v) (enc w) (dig_enc v) (dig_enc w)
    rw [val_enc hv, val_enc hw] at q1 q2
    exact ⟨q1, by omega⟩
  have g0 : Good (0 : Int) := ⟨[], by simp [dig], rfl⟩
  obtain ⟨m0, l0⟩ := hmul 0
  obtain ⟨m1, l1⟩ := hmul 1
  obtain ⟨m2, l2⟩ := hmul 2
  obtain ⟨a0, k0⟩ := hadd 0 0 g0 (by rw [enc_zero]; simp) (by omega) _ m0 l0
  obtain ⟨a1, k1⟩ := hadd _ 1 a0 k0 (by omega) _ m1 l1
  obtain ⟨a2, k2⟩ := hadd _ 2 a1 k1 (by omega) _ m2 l2
  have e : ent a b i k = 0 + val (at9 a (3 * i + 0)) * val (at9 b (3 * 0 + k)) + val (at9 a (3 * i + 1)) * val (at9 b (3 * 1 + k)) + val (at9 a (3 * i + 2)) * val (at9 b (3 * 2 + k)) := by
    unfold ent
    simp only [Nat.add_zero, Nat.mul_zero, Nat.zero_add, Nat.mul_one]
  rw [← e] at a2 k2
  refine ⟨?_, a2, by omega⟩
  have b0 := h1 [] 0 (by omega) (by simp [dig]) (by simp)
  rw [val_nil] at b0
  have b1 := h1 (enc (0 + val (at9 a (3 * i + 0)) * val (at9 b (3 * 0 + k)))) 1 (by omega) (dig_enc _) (by omega)
  rw [val_enc a0] at b1
  have b2 := h1 (enc (0 + val (at9 a (3 * i + 0)) * val (at9 b (3 * 0 + k)) + val (at9 a (3 * i + 1)) * val (at9 b (3 * 1 + k)))) 2 (by omega) (dig_enc _) (by omega)
  rw [val_enc a1, ← e] at b2
  exact run3 b0 b1 b2 (h2 _)
theorem w64_3n {i n : Nat} (hi : i < 3) (hn : n < 3) : w64 (w64 (3 * (i : Int)) + (n : Int)) = ((3 * i + n : Nat) : Int) := by
  rw [w64_in (n := 3 * (i : Int)) (by omega) (by omega), w64_in (by omega) (by omega)]
  omega
theorem prodL_len (a b : List (List Int)) : (prodL a b).length = 9 := by simp [prodL, List.range_succ]
theorem prodL_mem {m : Nat} (hm : m ≤ 10000) {a b : List (List Int)} (ha : Mat m a) (hb : Mat m b) : ∀ x ∈ prodL a b, ∃ v, x = enc v ∧ x.length ≤ 2 * m + 4 := by
  intro x hx
  unfold prodL at hx
  simp only [List.mem_flatMap, List.mem_range, List.mem_singleton] at hx
  obtain ⟨i, hi, k, hk, rfl⟩ := hx
  refine ⟨_, rfl, ?_⟩
  obtain ⟨_, _, h⟩ := ent_run (R := Unit) (body := fun s => if s.2 = 3 then some (.inr (.brk s)) else some (.inl (enc (val s.1 + val (at9 a (3 * i + s.2.toNat)) * val (at9 b (3 * s.2.toNat + k))), ((s.2.toNat + 1 : Nat) : Int)))) m hm a b ha hb i k hi hk (fun s n hn _ _ => by
    simp only []
    rw [if_neg (by omega), Int.toNat_natCast]) (fun s => by simp)
  exact h
theorem prodL_sml {m : Nat} (hm : m ≤ 10000) {a b : List (List Int)} (ha : Mat m a) (hb : Mat m b) : Sml (prodL a b) :=
  ⟨by rw [prodL_len]; decide, fun x hx => by
    obtain ⟨v, _, h⟩ := prodL_mem hm ha hb x hx
    exact ⟨by omega, fun _ _ => trivial⟩⟩
theorem prodL_nat {m : Nat} (hm : m ≤ 10000) {a b : List (List Int)} (ha : Mat m a) (hb : Mat m b) : (prodL a b).all natB = (prodL a b).all fun x => decide (x.length ≤ 40) := by
  rw [Bool.eq_iff_iff, List.all_eq_true, List.all_eq_true]
  constructor
  · intro h x hx
    obtain ⟨v, rfl, _⟩ := prodL_mem hm ha hb x hx
    rw [← natB_enc]; exact h _ hx
  · intro h x hx
    obtain ⟨v, rfl, _⟩ := prodL_mem hm ha hb x hx
    rw [natB_enc]; exact h _ hx
noncomputable def prodP (a b : List (List Int)) : List (List Int) × Int := cond ((prodL a b).all fun x => decide (x.length ≤ 40)) (prodL a b, 0) ([], 5)
theorem impl_prod (m : Nat) (hm : m ≤ 10000) (a b : List (List Int)) (ha : Mat m a) (hb : Mat m b) : F_impl_productOf a b = some (prodP a b) := by
  unfold F_impl_productOf
  have key : ∀ (i : Nat) (acc : List (List Int)), i < 3 → acc.length ≤ 100 → run (F_impl_productOf_L2 a b (acc, (i : Int))) (acc, 0) = some (.brk (acc ++ (List.range 3).flatMap (fun k => [enc (ent a b i k)]), (3 : Int))) := by
    intro i acc hi hacc
    rw [run_rangeL (body := F_impl_productOf_L2 a b (acc, (i : Int))) 3 (by omega) (fun a i => (a, i)) (fun k => [enc (ent a b i k)]) 1 (by simp) acc 100 hacc (fun k s hk hs => by
      obtain ⟨hr, _, _⟩ := ent_run (body := F_impl_productOf_L3 a b (acc, (i : Int)) (s, (k : Int))) m hm a b ha hb i k hi hk (fun t n hn hd hl => by
        unfold F_impl_productOf_L3
        have g1 := ha.at (3 * i + n)
        have g2 := hb.at (3 * n + k)
        obtain ⟨e2, e3⟩ := mulE_good _ _ g1.1 g2.1
        have e1 := impl_mulE _ _ g1.1 g2.1 (by omega) (by omega)
        have f1 := impl_addE t (enc (val (at9 a (3 * i + n)) * val (at9 b (3 * n + k)))) hd (dig_enc _) (by omega) (by omega)
        rw [val_enc e2] at f1
        simp only []
        rw [decide_eq_true (by omega), cond_true, w64_3n hi hn, w64_3n hn hk, idx9 ha (by omega), bnd_some_eq, idx9 hb (by omega), bnd_some_eq, e1, bnd_some_eq, f1, bnd_some_eq, w64_nat1 (by omega)])
        (fun t => rfl)
      unfold F_impl_productOf_L2
      simp only []
      rw [decide_eq_true (by omega), cond_true, hr]
      simp only [bnd_some_eq, Out.elim]
      rw [app_ok (by simp; omega), bnd_some_eq])]
    exact run_done rfl
  rw [run_rangeL (body := F_impl_productOf_L1 a b) 3 (by omega) (fun a i => (a, i)) (fun i => (List.range 3).flatMap fun k => [enc (ent a b i k)]) 3 (fun i _ => by simp [List.range_succ]) [] 0 (by simp) (fun i s hi hs => by
    unfold F_impl_productOf_L1
    simp only []
    rw [decide_eq_true (by omega), cond_true, key i s hi (by omega)]
    rfl)]
  rw [run_done (x := Out.brk ([] ++ (List.range 3).flatMap (fun i => (List.range 3).flatMap fun k => [enc (ent a b i k)]), (3 : Int))) rfl]
  simp only [bnd_some_eq, Out.elim, List.nil_append]
  show bnd (F_impl_checkedSquare (prodL a b)) _ = _
  unfold F_impl_checkedSquare prodP
  rw [impl_square _ (prodL_sml hm ha hb), prodL_nat hm ha hb, prodL_len]
  simp only [bnd_some_eq, decide_true, Bool.true_and]
  cases (prodL a b).all fun x => decide (x.length ≤ 40) <;> rfl
end Go.Fn
