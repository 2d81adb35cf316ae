/-
  Machines; the plain law of TilesOfMachine. No program in sight. No condition.
-/
import Derived.Test.YtabpcmbohmodnaaPRun
import Derived.Test.YtabpcmbohmodnaaLaw
namespace Go.Tc
open Go
/-- A loop over 0, 1, .. n-1 that appends. -/
theorem run_rangeL {β S X : Type} {body : S → Option (S ⊕ X)} (n : Nat) (hn : n ≤ 4611686018427387903) (st : List β → Int → S) (g : Nat → List β) (m : Nat) (hg : ∀ k, k < n → (g k).length ≤ m) (a0 : List β) (B : Nat) (h0 : a0.length ≤ B)
    (h : ∀ (i : Nat) (a : List β), i < n → a.length ≤ B + i * m → body (st a (i : Int)) = some (.inl (st (a ++ g i) (w64 ((i : Int) + 1))))) :
    run body (st a0 0) = run body (st (a0 ++ (List.range n).flatMap g) (n : Int)) := by
  have := (run_rowf (body := body) (List.range n) (by simpa using hn) st (fun a k => a ++ g k) (fun i a => a.length ≤ B + i * m) (by
    intro i hi a k
    simp only [List.length_range] at hi
    simp only [List.getElem_range]
    refine ⟨h i a hi k, ?_⟩
    have := hg i hi
    rw [List.length_append, Nat.succ_mul]
    omega) a0 (by omega)).1
  rw [foldl_app1, List.length_range] at this
  exact this
theorem w64_nat {n : Nat} (h : n ≤ 4611686018427387904) : w64 (n : Int) = n := w64_in (by omega) (by omega)
theorem w64_mul {n m : Nat} (h : n * m ≤ 4611686018427387904) : w64 ((n : Int) * (m : Int)) = ((n * m : Nat) : Int) := by
  rw [← Int.natCast_mul]
  exact w64_in (by omega) (by omega)
theorem range_mul {β : Type} (g : Nat → List β) (s : Nat) : ∀ q : Nat, (List.range (q * s)).flatMap g = (List.range q).flatMap fun p => (List.range s).flatMap fun a => g (p * s + a)
  | 0 => by simp
  | q + 1 => by
    rw [Nat.succ_mul, List.range_add, List.flatMap_append, range_mul g s q, List.range_succ, List.flatMap_append]
    simp [List.flatMap_map]
theorem flatMap_congr' {α β : Type} {f g : α → List β} : ∀ {xs : List α}, (∀ x ∈ xs, f x = g x) → xs.flatMap f = xs.flatMap g
  | [], _ => rfl
  | x :: xs, h => by rw [List.flatMap_cons, List.flatMap_cons, h x (by simp), flatMap_congr' (fun y hy => h y (by simp [hy]))]
end Go.Tc
namespace Go.Fn
open Go Go.Tc
theorem dec_le2 {a b : Nat} {x y : Int} (hx : x = a) (hy : y = b) : decide (x ≤ y) = decide (a ≤ b) := by
  subst hx; subst hy
  rw [decide_eq_decide]; omega
theorem dec_lt2 {a b : Nat} {x y : Int} (hx : x = a) (hy : y = b) : decide (x < y) = decide (a < b) := by
  subst hx; subst hy
  rw [decide_eq_decide]; omega
def noR : GRule := ⟨0, 0, -1⟩
def ruleB (s q : Int) (r : GRule) : Bool := decide (r = noR) || (inB r.Write 0 (s - 1) && ((decide (r.Move = 1) || decide (r.Move = -1)) && inB r.Next 0 (q - 1)))
def machB (m : GMachine) : Bool := inB m.Symbols 2 6 && inB m.States 1 1000 && decide ((m.Rules.length : Int) = m.Symbols * m.States) && m.Rules.all (ruleB m.Symbols m.States)
theorem inB_iff {x lo hi : Int} : inB x lo hi = true ↔ lo ≤ x ∧ x ≤ hi := by
  unfold inB
  simp only [Bool.and_eq_true, decide_eq_true_eq]
theorem spec_rule (r : GRule) (s q : Int) (hs : 0 ≤ s ∧ s ≤ 1000000) (hq : 0 ≤ q ∧ q ≤ 1000000) : F_spec_l05Rule r s q = some (ruleB s q r) := by
  unfold F_spec_l05Rule F_spec_l05None ruleB noR
  rw [w64_in (by omega) (by omega), w64_in (by omega) (by omega)]
  simp only [bnd_some_eq, spec_in]
  cases decide (r = ⟨0, 0, -1⟩)
  · cases inB r.Write 0 (s - 1)
    · rfl
    cases decide (r.Move = 1)
    · cases decide (r.Move = -1) <;> rfl
    · rfl
  · rfl
theorem impl_rule (m : GMachine) (r : GRule) (hs : 0 ≤ m.Symbols ∧ m.Symbols ≤ 1000000) (hq : 0 ≤ m.States ∧ m.States ≤ 1000000) : F_impl_validRule m r = some (ruleB m.Symbols m.States r) := by
  unfold F_impl_validRule F_impl_isRule F_impl_noRule ruleB noR
  rw [w64_in (by omega) (by omega), w64_in (by omega) (by omega)]
  simp only [bnd_some_eq, impl_in]
  cases decide (r = ⟨0, 0, -1⟩)
  · cases inB r.Write 0 (m.Symbols - 1)
    · rfl
    cases decide (r.Move = 1)
    · cases decide (r.Move = -1) <;> rfl
    · cases decide (r.Move = -1) <;> rfl
  · rfl
theorem sq_in {s q : Int} (hs : 2 ≤ s ∧ s ≤ 6) (hq : 1 ≤ q ∧ q ≤ 1000) : 0 ≤ s * q ∧ s * q ≤ 6000 := by
  refine ⟨Int.mul_nonneg (by omega) (by omega), ?_⟩
  have h1 : s * q ≤ 6 * q := Int.mul_le_mul_of_nonneg_right hs.2 (by omega)
  omega
theorem spec_mach (m : GMachine) (h : Sml m) : F_spec_l05Is m = some (machB m) := by
  have h1 : m.Rules.length ≤ 1048576 := h.1
  unfold F_spec_l05Is machB
  simp only [bnd_some_eq, spec_in]
  cases hS : inB m.Symbols 2 6
  · rfl
  cases hQ : inB m.States 1 1000
  · rfl
  rw [inB_iff] at hS hQ
  have hm := sq_in hS hQ
  rw [w64_in (by omega) (by omega)]
  by_cases hl : (m.Rules.length : Int) = m.Symbols * m.States
  · rw [decide_eq_true hl, decide_eq_false (by omega : ¬ (m.Rules.length : Int) ≠ m.Symbols * m.States)]
    simp only [Bool.not_true, cond_false, bnd_some_eq, Out.elim, Bool.true_and]
    rw [run_allp m.Rules (by omega) (ruleB m.Symbols m.States) (.ret false) (.brk (m.Rules.length : Int)) (fun i hi => by
      simp only [F_spec_l05Is_L1, Int.ofNat_lt, hi, decide_true, cond_true, idx_nat hi, bnd_some_eq, spec_rule _ _ _ (by omega : 0 ≤ m.Symbols ∧ m.Symbols ≤ 1000000) (by omega : 0 ≤ m.States ∧ m.States ≤ 1000000)]
      cases ruleB m.Symbols m.States m.Rules[i] <;> rfl) (by simp [F_spec_l05Is_L1])]
    cases m.Rules.all (ruleB m.Symbols m.States) <;> rfl
  · rw [decide_eq_false hl, decide_eq_true (show (m.Rules.length : Int) ≠ m.Symbols * m.States from hl)]
    rfl
theorem impl_mach (m : GMachine) (h : Sml m) : F_impl_ValidMachine m = some (machB m) := by
  have h1 : m.Rules.length ≤ 1048576 := h.1
  unfold F_impl_ValidMachine F_impl_size_impl_Rule machB F_slices_ContainsFunc_Simpl_Rule_impl_Rule F_slices_IndexFunc_Simpl_Rule_impl_Rule
  simp only [bnd_some_eq, impl_in]
  cases hS : inB m.Symbols 2 6
  · rfl
  cases hQ : inB m.States 1 1000
  · rfl
  rw [inB_iff] at hS hQ
  have hm := sq_in hS hQ
  rw [Int.mul_comm m.States m.Symbols, w64_in (by omega) (by omega)]
  by_cases hl : (m.Rules.length : Int) = m.Symbols * m.States
  · rw [decide_eq_true hl, decide_eq_false (by omega : ¬ (m.Rules.length : Int) ≠ m.Symbols * m.States)]
    simp only [Bool.not_true, cond_false, bnd_some_eq, Bool.true_and]
    rw [run_find m.Rules (by omega) (fun x => !ruleB m.Symbols m.States x) (fun i hi => by
      simp only [F_slices_IndexFunc_Simpl_Rule_impl_Rule_L1, F_impl_ValidMachine_1, Int.ofNat_lt, hi, decide_true, cond_true, idx_nat hi, bnd_some_eq, impl_rule m _ (by omega : 0 ≤ m.Symbols ∧ m.Symbols ≤ 1000000) (by omega : 0 ≤ m.States ∧ m.States ≤ 1000000)]
      cases ruleB m.Symbols m.States m.Rules[i] <;> rfl) (by simp [F_slices_IndexFunc_Simpl_Rule_impl_Rule_L1])]
    simp only [bnd_some_eq]
    rw [find_any, any_not]
  · rw [decide_eq_false hl, decide_eq_true (show (m.Rules.length : Int) ≠ m.Symbols * m.States from hl)]
    rfl
/-- What a valid machine is like. -/
theorem machB_nat {m : GMachine} (h : machB m = true) : ∃ s q : Nat, m.Symbols = s ∧ m.States = q ∧ 2 ≤ s ∧ s ≤ 6 ∧ 1 ≤ q ∧ q ≤ 1000 ∧ m.Rules.length = q * s ∧ q * s ≤ 6000 ∧ ∀ r ∈ m.Rules, ruleB m.Symbols m.States r = true := by
  unfold machB at h
  simp only [Bool.and_eq_true, decide_eq_true_eq, inB_iff] at h
  obtain ⟨⟨⟨hs, hq⟩, hl⟩, ha⟩ := h
  have hm := sq_in hs hq
  refine ⟨m.Symbols.toNat, m.States.toNat, by omega, by omega, by omega, by omega, by omega, by omega, ?_, ?_, List.all_eq_true.1 ha⟩
  · have : ((m.States.toNat * m.Symbols.toNat : Nat) : Int) = m.Symbols * m.States := by
      rw [Int.natCast_mul, Int.toNat_of_nonneg (by omega), Int.toNat_of_nonneg (by omega), Int.mul_comm]
    omega
  · have : ((m.States.toNat * m.Symbols.toNat : Nat) : Int) = m.Symbols * m.States := by
      rw [Int.natCast_mul, Int.toNat_of_nonneg (by omega), Int.toNat_of_nonneg (by omega), Int.mul_comm]
    omega
def headC (m : GMachine) (q a : Int) : Int := w64 ((w64 (m.Symbols * (w64 (q + 1)))) + a)
theorem flat_const {β : Type} (g : Nat → List β) (c : Nat) (h : ∀ k, (g k).length = c) : ∀ n, ((List.range n).flatMap g).length = n * c
  | 0 => by simp
  | n + 1 => by rw [List.range_succ, List.flatMap_append, List.length_append, flat_const g c h n, Nat.succ_mul]; simp [h]
theorem at_lt {p a s q : Nat} (hp : p < q) (ha : a < s) : p * s + a < q * s := by
  have : (p + 1) * s ≤ q * s := Nat.mul_le_mul_right s hp
  rw [Nat.succ_mul] at this
  omega
end Go.Fn
