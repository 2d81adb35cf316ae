/-
  Products of matrices; the plain law of MultiplySquares. No program in sight. No condition.
-/
import Derived.Test.YtlbbchonoomafaaPBig
import Derived.Test.YtlbbchonoomafaaPDeriv
namespace Go.Fn
open Go Go.Tc
def Good (v : Int) : Prop := ∃ X, dig X ∧ val X = v
open Classical in
noncomputable def enc (v : Int) : List Int := if h : Good v then trimL h.choose else []
theorem enc_eq {X : List Int} (h : dig X) : trimL X = enc (val X) := by
  have hg : Good (val X) := ⟨X, h, rfl⟩
  unfold enc
  rw [dif_pos hg]
  exact trim_eq h hg.choose_spec.1 hg.choose_spec.2.symm
theorem good_of {X : List Int} (h : dig X) : Good (val X) := ⟨X, h, rfl⟩
theorem dig_enc (v : Int) : dig (enc v) := by
  unfold enc
  by_cases h : Good v
  · rw [dif_pos h]; exact dig_trim h.choose_spec.1
  · rw [dif_neg h]; simp [dig]
theorem val_enc {v : Int} (h : Good v) : val (enc v) = v := by
  obtain ⟨X, hX, rfl⟩ := h
  rw [← enc_eq hX, val_trim]
theorem trim_enc (v : Int) : trimL (enc v) = enc v := by
  by_cases h : Good v
  · rw [enc_eq (dig_enc v), val_enc h]
  · unfold enc
    rw [dif_neg h]; rfl
theorem enc_zero : enc 0 = [] := by
  have := enc_eq (X := []) (by simp [dig])
  rw [val_nil] at this
  rw [← this]; rfl
theorem natB_enc (v : Int) : natB (enc v) = decide ((enc v).length ≤ 40) := by
  have := natB_trim (dig_enc v)
  rwa [trim_enc] at this
theorem spec_mulE (a b : List Int) (ha : dig a) (hb : dig b) (la : a.length ≤ 50000) (lb : b.length ≤ 50000) : F_spec_l02Mul a b = some (enc (val a * val b)) ∧ Good (val a * val b) ∧ (enc (val a * val b)).length ≤ a.length + b.length + 1 := by
  obtain ⟨X, h1, h2, h3, h4⟩ := spec_mul a b ha hb la lb
  have h5 := trimL_len X
  rw [enc_eq h2, h3] at h1 h5
  exact ⟨h1, ⟨X, h2, h3⟩, by omega⟩
theorem impl_mulE (a b : List Int) (ha : dig a) (hb : dig b) (la : a.length ≤ 50000) (lb : b.length ≤ 50000) : F_impl_multiply a b = some (enc (val a * val b)) := by
  obtain ⟨X, h1, h2, h3, h4⟩ := impl_mul a b ha hb la lb
  rw [enc_eq h2, h3] at h1
  exact h1
theorem spec_addE (a b : List Int) (ha : dig a) (hb : dig b) (la : a.length ≤ 50000) (lb : b.length ≤ 50000) : bnd (F_spec_l02Add a b) (fun r => F_spec_l02Trim r) = some (enc (val a + val b)) ∧ Good (val a + val b) ∧ (enc (val a + val b)).length ≤ max a.length b.length + 1 := by
  obtain ⟨X, h1, h2, h3, h4⟩ := spec_add a b ha hb (by omega) (by omega)
  have h5 := trimL_len X
  have h6 : trimL X = enc (val a + val b) := by rw [enc_eq h2, h3]
  rw [h6] at h5
  refine ⟨?_, ⟨X, h2, h3⟩, by omega⟩
  rw [h1, bnd_some_eq, spec_trim2 X (by omega), h6]
theorem impl_addE (a b : List Int) (ha : dig a) (hb : dig b) (la : a.length ≤ 50000) (lb : b.length ≤ 50000) : F_impl_add a b = some (enc (val a + val b)) := by
  obtain ⟨X, h1, h2, h3, h4⟩ := impl_add a b ha hb la lb
  rw [enc_eq h2, h3] at h1
  exact h1
/-! ### Matrices -/
def at9 (a : List (List Int)) (i : Nat) : List Int := a.getD i []
def ent (a b : List (List Int)) (i k : Nat) : Int := 0 + val (at9 a (3 * i)) * val (at9 b k) + val (at9 a (3 * i + 1)) * val (at9 b (3 + k)) + val (at9 a (3 * i + 2)) * val (at9 b (6 + k))
noncomputable def prodL (a b : List (List Int)) : List (List Int) := (List.range 3).flatMap fun i => (List.range 3).flatMap fun k => [enc (ent a b i k)]
def Mat (m : Nat) (a : List (List Int)) : Prop := a.length = 9 ∧ ∀ x ∈ a, dig x ∧ x.length ≤ m
theorem Mat.at {m : Nat} {a : List (List Int)} (h : Mat m a) (i : Nat) : dig (at9 a i) ∧ (at9 a i).length ≤ m := by
  unfold at9
  rw [List.getD_eq_getElem?_getD]
  cases e : a[i]? with
  | none => exact ⟨by simp [dig], Nat.zero_le _⟩
  | some x => exact h.2 x (List.mem_of_getElem? e)
theorem idx9 {m : Nat} {a : List (List Int)} (h : Mat m a) {i : Nat} (hi : i < 9) : idx a (i : Int) = some (at9 a i) := by
  rw [idx_nat (by rw [h.1]; exact hi)]
  unfold at9
  rw [List.getD_eq_getElem?_getD, List.getElem?_eq_getElem]; rfl
theorem mat_of {a : List (List Int)} (h : (decide (a.length = 9) && a.all natB) = true) : Mat 40 a := by
  rw [Bool.and_eq_true, decide_eq_true_eq] at h
  exact ⟨h.1, fun x hx => by
    obtain ⟨h1, h2, _⟩ := natB_dig (List.all_eq_true.1 h.2 x hx)
    exact ⟨h1, h2⟩⟩
/-- Three steps of a loop. -/
theorem run3 {S X : Type} {body : S → Option (S ⊕ X)} {s0 s1 s2 s3 : S} {x : X} (h0 : body s0 = some (.inl s1)) (h1 : body s1 = some (.inl s2)) (h2 : body s2 = some (.inl s3)) (h3 : body s3 = some (.inr x)) : run body s0 = some x := by
  rw [run_next h0, run_next h1, run_next h2, run_done h3]
theorem ent_run {R : Type} {body : List Int × Int → Option ((List Int × Int) ⊕ Out (List Int × Int) R)} (m : Nat) (hm : m ≤ 10000) (a b : List (List Int)) (ha : Mat m a) (hb : Mat m b) (i k : Nat) (hi : i < 3) (hk : k < 3)
    (h1 : ∀ (s : List Int) (n : Nat), n < 3 → dig s → s.length ≤ 40000 → body (s, (n : Int)) = some (.inl (enc (val s + val (at9 a (3 * i + n)) * val (at9 b (3 * n + k))), ((n + 1 : Nat) : Int))))
    (h2 : ∀ s, body (s, 3) = some (.inr (.brk (s, 3)))) : run body ([], 0) = some (.brk (enc (ent a b i k), 3)) ∧ Good (ent a b i k) ∧ (enc (ent a b i k)).length ≤ 2 * m + 4 := by
  have hmul : ∀ n, Good (val (at9 a (3 * i + n)) * val (at9 b (3 * n + k))) ∧ (enc (val (at9 a (3 * i + n)) * val (at9 b (3 * n + k)))).length ≤ 2 * m + 1 := fun n => by
    have g1 := ha.at (3 * i + n)
    have g2 := hb.at (3 * n + k)
    obtain ⟨_, q1, q2⟩ := spec_mulE _ _ g1.1 g2.1 (by omega) (by omega)
    exact ⟨q1, by omega⟩
  have hadd : ∀ v n, Good v → (enc v).length ≤ 2 * m + 1 + n → n ≤ 3 → ∀ w, Good w → (enc w).length ≤ 2 * m + 1 → Good (v + w) ∧ (enc (v + w)).length ≤ 2 * m + 1 + (n + 1) := fun v n hv hl hn w hw hlw => by
    obtain ⟨_, q1, q2⟩ := spec_addE (enc v) (enc w) (dig_enc v) (dig_enc w) (by omega) (by omega)
    rw [val_enc hv, val_enc hw] at q1 q2
    exact ⟨q1, by omega⟩
  have g0 : Good (0 : Int) := ⟨[], by simp [dig], rfl⟩
  obtain ⟨m0, l0⟩ := hmul 0
  obtain ⟨m1, l1⟩ := hmul 1
  obtain ⟨m2, l2⟩ := hmul 2
  obtain ⟨a0, k0⟩ := hadd 0 0 g0 (by rw [enc_zero]; simp) (by omega) _ m0 l0
  obtain ⟨a1, k1⟩ := hadd _ 1 a0 k0 (by omega) _ m1 l1
  obtain ⟨a2, k2⟩ := hadd _ 2 a1 k1 (by omega) _ m2 l2
  have e : ent a b i k = 0 + val (at9 a (3 * i + 0)) * val (at9 b (3 * 0 + k)) + val (at9 a (3 * i + 1)) * val (at9 b (3 * 1 + k)) + val (at9 a (3 * i + 2)) * val (at9 b (3 * 2 + k)) := by
    unfold ent
    simp only [Nat.add_zero, Nat.mul_zero, Nat.zero_add, Nat.mul_one]
  rw [← e] at a2 k2
  refine ⟨?_, a2, by omega⟩
  have b0 := h1 [] 0 (by omega) (by simp [dig]) (by simp)
  rw [val_nil] at b0
  have b1 := h1 (enc (0 + val (at9 a (3 * i + 0)) * val (at9 b (3 * 0 + k)))) 1 (by omega) (dig_enc _) (by omega)
  rw [val_enc a0] at b1
  have b2 := h1 (enc (0 + val (at9 a (3 * i + 0)) * val (at9 b (3 * 0 + k)) + val (at9 a (3 * i + 1)) * val (at9 b (3 * 1 + k)))) 2 (by omega) (dig_enc _) (by omega)
  rw [val_enc a1, ← e] at b2
  exact run3 b0 b1 b2 (h2 _)
theorem w64_3n {i n : Nat} (hi : i < 3) (hn : n < 3) : w64 (w64 (3 * (i : Int)) + (n : Int)) = ((3 * i + n : Nat) : Int) := by
  rw [w64_in (n := 3 * (i : Int)) (by omega) (by omega), w64_in (by omega) (by omega)]
  omega
theorem prodL_len (a b : List (List Int)) : (prodL a b).length = 9 := by simp [prodL, List.range_succ]
theorem prodL_mem {m : Nat} (hm : m ≤ 10000) {a b : List (List Int)} (ha : Mat m a) (hb : Mat m b) : ∀ x ∈ prodL a b, ∃ v, x = enc v ∧ x.length ≤ 2 * m + 4 := by
  intro x hx
  unfold prodL at hx
  simp only [List.mem_flatMap, List.mem_range, List.mem_singleton] at hx
  obtain ⟨i, hi, k, hk, rfl⟩ := hx
  refine ⟨_, rfl, ?_⟩
  obtain ⟨_, _, h⟩ := ent_run (R := Unit) (body := fun s => if s.2 = 3 then some (.inr (.brk s)) else some (.inl (enc (val s.1 + val (at9 a (3 * i + s.2.toNat)) * val (at9 b (3 * s.2.toNat + k))), ((s.2.toNat + 1 : Nat) : Int)))) m hm a b ha hb i k hi hk (fun s n hn _ _ => by
    simp only []
    rw [if_neg (by omega), Int.toNat_natCast]) (fun s => by simp)
  exact h
theorem prodL_sml {m : Nat} (hm : m ≤ 10000) {a b : List (List Int)} (ha : Mat m a) (hb : Mat m b) : Sml (prodL a b) :=
  ⟨by rw [prodL_len]; decide, fun x hx => by
    obtain ⟨v, _, h⟩ := prodL_mem hm ha hb x hx
    exact ⟨by omega, fun _ _ => trivial⟩⟩
theorem prodL_nat {m : Nat} (hm : m ≤ 10000) {a b : List (List Int)} (ha : Mat m a) (hb : Mat m b) : (prodL a b).all natB = (prodL a b).all fun x => decide (x.length ≤ 40) := by
  rw [Bool.eq_iff_iff, List.all_eq_true, List.all_eq_true]
  constructor
  · intro h x hx
    obtain ⟨v, rfl, _⟩ := prodL_mem hm ha hb x hx
    rw [← natB_enc]; exact h _ hx
  · intro h x hx
    obtain ⟨v, rfl, _⟩ := prodL_mem hm ha hb x hx
    rw [natB_enc]; exact h _ hx
noncomputable def prodP (a b : List (List Int)) : List (List Int) × Int := cond ((prodL a b).all fun x => decide (x.length ≤ 40)) (prodL a b, 0) ([], 5)
end Go.Fn
