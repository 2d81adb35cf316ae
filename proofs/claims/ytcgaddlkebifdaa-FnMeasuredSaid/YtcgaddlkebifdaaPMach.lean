/-
  Machines; the plain law of TilesOfMachine. No program in sight. No condition.
-/
import Derived.Test.YtcgaddlkebifdaaPRun
import Derived.Test.YtcgaddlkebifdaaLaw
namespace Go.Tc
open Go
theorem w64_mul {n m : Nat} (h : n * m ≤ 4611686018427387904) : w64 ((n : Int) * (m : Int)) = ((n * m : Nat) : Int) := by
  rw [← Int.natCast_mul]
  exact w64_in (by omega) (by omega)
end Go.Tc
namespace Go.Fn
open Go Go.Tc
def noR : GRule := ⟨0, 0, -1⟩
def ruleB (s q : Int) (r : GRule) : Bool := decide (r = noR) || (inB r.Write 0 (s - 1) && ((decide (r.Move = 1) || decide (r.Move = -1)) && inB r.Next 0 (q - 1)))
def machB (m : GMachine) : Bool := inB m.Symbols 2 6 && inB m.States 1 1000 && decide ((m.Rules.length : Int) = m.Symbols * m.States) && m.Rules.all (ruleB m.Symbols m.States)
theorem inB_iff {x lo hi : Int} : inB x lo hi = true ↔ lo ≤ x ∧ x ≤ hi := by
  unfold inB
  simp only [Bool.and_eq_true, decide_eq_true_eq]
theorem impl_rule (m : GMachine) (r : GRule) (hs : 0 ≤ m.Symbols ∧ m.Symbols ≤ 1000000) (hq : 0 ≤ m.States ∧ m.States ≤ 1000000) : F_impl_validRule m r = some (ruleB m.Symbols m.States r) := by
  unfold F_impl_validRule F_impl_isRule F_impl_noRule ruleB noR
  rw [w64_in (by omega) (by omega), w64_in (by omega) (by omega)]
  simp only [bnd_some_eq, impl_in]
  cases decide (r = ⟨0, 0, -1⟩)
  · cases inB r.Write 0 (m.Symbols - 1)
    · rfl
    cases decide (r.Move = 1)
    · cases decide (r.Move = -1) <;> rfl
    · cases decide (r.Move = -1) <;> rfl
  · rfl
theorem sq_in {s q : Int} (hs : 2 ≤ s ∧ s ≤ 6) (hq : 1 ≤ q ∧ q ≤ 1000) : 0 ≤ s * q ∧ s * q ≤ 6000 := by
  refine ⟨Int.mul_nonneg (by omega) (by omega), ?_⟩
  have h1 : s * q ≤ 6 * q := Int.mul_le_mul_of_nonneg_right hs.2 (by omega)
  omega
theorem impl_mach (m : GMachine) (h : Sml m) : F_impl_ValidMachine m = some (machB m) := by
  have h1 : m.Rules.length ≤ 1048576 := h.1
  unfold F_impl_ValidMachine F_impl_size_impl_Rule machB F_slices_ContainsFunc_Simpl_Rule_impl_Rule F_slices_IndexFunc_Simpl_Rule_impl_Rule
  simp only [bnd_some_eq, impl_in]
  cases hS : inB m.Symbols 2 6
  · rfl
  cases hQ : inB m.States 1 1000
  · rfl
  rw [inB_iff] at hS hQ
  have hm := sq_in hS hQ
  rw [Int.mul_comm m.States m.Symbols, w64_in (by omega) (by omega)]
  by_cases hl : (m.Rules.length : Int) = m.Symbols * m.States
  · rw [decide_eq_true hl, decide_eq_false (by omega : ¬ (m.Rules.length : Int) ≠ m.Symbols * m.States)]
    simp only [Bool.not_true, cond_false, bnd_some_eq, Bool.true_and]
    rw [run_find m.Rules (by omega) (fun x => !ruleB m.Symbols m.States x) (fun i hi => by
      simp only [F_slices_IndexFunc_Simpl_Rule_impl_Rule_L1, F_impl_ValidMachine_1, Int.ofNat_lt, hi, decide_true, cond_true, idx_nat hi, bnd_some_eq, impl_rule m _ (by omega : 0 ≤ m.Symbols ∧ m.Symbols ≤ 1000000) (by omega : 0 ≤ m.States ∧ m.States ≤ 1000000)]
      cases ruleB m.Symbols m.States m.Rules[i] <;> rfl) (by simp [F_slices_IndexFunc_Simpl_Rule_impl_Rule_L1])]
    simp only [bnd_some_eq]
    rw [find_any, any_not]
  · rw [decide_eq_false hl, decide_eq_true (show (m.Rules.length : Int) ≠ m.Symbols * m.States from hl)]
    rfl
/-- What a valid machine is like. -/
theorem machB_nat {m : GMachine} (h : machB m = true) : ∃ s q : Nat, m.Symbols = s ∧ m.States = q ∧ 2 ≤ s ∧ s ≤ 6 ∧ 1 ≤ q ∧ q ≤ 1000 ∧ m.Rules.length = q * s ∧ q * s ≤ 6000 ∧ ∀ r ∈ m.Rules, ruleB m.Symbols m.States r = true := by
  unfold machB at h
  simp only [Bool.and_eq_true, decide_eq_true_eq, inB_iff] at h
  obtain ⟨⟨⟨hs, hq⟩, hl⟩, ha⟩ := h
  have hm := sq_in hs hq
  refine ⟨m.Symbols.toNat, m.States.toNat, by omega, by omega, by omega, by omega, by omega, by omega, ?_, ?_, List.all_eq_true.1 ha⟩
  · have : ((m.States.toNat * m.Symbols.toNat : Nat) : Int) = m.Symbols * m.States := by
      rw [Int.natCast_mul, Int.toNat_of_nonneg (by omega), Int.toNat_of_nonneg (by omega), Int.mul_comm]
    omega
  · have : ((m.States.toNat * m.Symbols.toNat : Nat) : Int) = m.Symbols * m.States := by
      rw [Int.natCast_mul, Int.toNat_of_nonneg (by omega), Int.toNat_of_nonneg (by omega), Int.mul_comm]
    omega
theorem at_lt {p a s q : Nat} (hp : p < q) (ha : a < s) : p * s + a < q * s := by
  have : (p + 1) * s ≤ q * s := Nat.mul_le_mul_right s hp
  rw [Nat.succ_mul] at this
  omega
end Go.Fn
