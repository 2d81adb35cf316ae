/-
  What the laws' helpers answer: comparisons of equal data, lengths, draws out of bytes. No program in sight. No condition.
-/
import Derived.Test.YtgojoooilijiiaaPSrc
import Derived.Test.YtgojoooilijiiaaPTRun
namespace Go.Fn
open Go Go.Tc
theorem r8_same (xs : List Int) (h : xs.length ≤ 1048576) : F_laws_r8Same xs xs = some true := by
  unfold F_laws_r8Same
  rw [decide_eq_false (by simp), cond_false, run_allp xs (by omega) (fun _ => true) (.ret false) (.brk (xs.length : Int)) (fun i hi => by
    simp only [F_laws_r8Same_L1, Int.ofNat_lt, hi, decide_true, cond_true, idx_nat hi, bnd_some_eq]
    rw [decide_eq_false (by simp), cond_false]) (by simp [F_laws_r8Same_L1])]
  have e : (xs.all fun _ => true) = true := by simp
  rw [e]
  rfl
theorem r8_long (c d : List (Ik .u8)) : F_laws_r8Long c d = some (decide (1048576 < c.length) || decide (1048576 < d.length)) := by
  unfold F_laws_r8Long
  by_cases h : 1048576 < c.length
  · rw [decide_eq_true (by omega), cond_true, decide_eq_true h, Bool.true_or]
  · rw [decide_eq_false (by omega), cond_false, decide_eq_false h, Bool.false_or]
    congr 1
    rw [decide_eq_decide]
    omega
theorem r8_at {c : List (Ik .u8)} (h : Bytes c) (k : Nat) {n : Int} (hn : 1 ≤ n) : ∃ v, F_laws_r8At c (k : Int) n = some v ∧ 0 ≤ v ∧ v < n := by
  unfold F_laws_r8At
  by_cases h1 : n ≤ 1
  · rw [decide_eq_true h1, cond_true]
    exact ⟨0, rfl, by omega, by omega⟩
  rw [decide_eq_false h1, cond_false]
  by_cases h2 : c.length ≤ k
  · rw [decide_eq_true (by omega), cond_true]
    exact ⟨0, rfl, by omega, by omega⟩
  · have hlt : k < c.length := by omega
    have hv := h.2 _ (List.getElem_mem hlt)
    rw [decide_eq_false (by omega), cond_false, idx_nat hlt, bnd_some_eq, nz_src (by omega), bnd_some_eq, w64_in (by omega) (by omega), Int.tmod_eq_emod_of_nonneg hv.1]
    exact ⟨_, rfl, Int.emod_nonneg _ (by omega), Int.emod_lt_of_pos _ (by omega)⟩
theorem r8_lists {xs : List (List Int)} (h : xs.length ≤ 1048576) (h2 : ∀ x ∈ xs, x.length ≤ 1048576) : F_laws_r8Lists xs xs = some true := by
  unfold F_laws_r8Lists
  rw [decide_eq_false (by simp), cond_false, run_allp xs (by omega) (fun _ => true) (.ret false) (.brk (xs.length : Int)) (fun i hi => by
    simp only [F_laws_r8Lists_L1, Int.ofNat_lt, hi, decide_true, cond_true, idx_nat hi, bnd_some_eq]
    rw [r8_same _ (h2 _ (List.getElem_mem hi)), bnd_some_eq, Bool.not_true, cond_false]) (by simp [F_laws_r8Lists_L1])]
  have e : (xs.all fun _ => true) = true := by simp
  rw [e]
  rfl
end Go.Fn
