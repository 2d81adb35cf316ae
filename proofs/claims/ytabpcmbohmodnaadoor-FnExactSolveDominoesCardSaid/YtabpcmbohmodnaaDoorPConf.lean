/-
  Rows turned round and trimmed; the plain law of ConfigOfRow. No program in sight. No condition.
-/
import Derived.Test.YtabpcmbohmodnaaDoorPMach
namespace Go.Fn
open Go Go.Tc
theorem slc0 {α : Type} {xs : List α} {hi : Nat} (h : hi ≤ xs.length) : slc xs 0 (hi : Int) = some (xs.take hi) := by
  have := slc_ok (xs := xs) (lo := 0) (hi := hi) (Nat.zero_le _) h
  rw [List.drop_zero] at this
  exact this
theorem spec_own' (xs : List Int) (h : xs.length ≤ 1048576) : F_spec_l00Own xs = some xs := by
  unfold F_spec_l00Own
  rw [app_ok (by simp; omega)]
  rfl
theorem impl_clone' (xs : List Int) (h : xs.length ≤ 1048576) : F_slices_Clone_Sint64_int64 xs = some xs := by
  unfold F_slices_Clone_Sint64_int64
  rw [app_ok (by simp; omega)]
  rfl
theorem impl_reversed (xs : List Int) (h : xs.length ≤ 1048576) : F_impl_reversed xs = some xs.reverse := by
  unfold F_impl_reversed
  rw [impl_clone' xs h, bnd_some_eq, w64_in (by omega) (by omega)]
  obtain ⟨o, ho, i, j, rfl⟩ := run_inv (body := F_impl_reversed_L1) (fun s => ∃ n : Nat, s.2.1 = n ∧ s.2.2 = (xs.length : Int) - 1 - n ∧ 2 * n ≤ xs.length ∧ s.1.length = xs.length ∧ ∀ k, k < xs.length → s.1[k]? = if k < n ∨ xs.length ≤ k + n then xs[xs.length - 1 - k]? else xs[k]?)
    (fun o => ∃ i j, o = .brk (xs.reverse, i, j)) (fun s => (s.2.2 - s.2.1 + 1).toNat) (by
      rintro ⟨a, i, j⟩ ⟨n, rfl, rfl, h2, hl, hk⟩
      simp only at hl hk
      by_cases hc : n + n + 1 < xs.length
      · left
        have hj : (xs.length : Int) - 1 - n = ((xs.length - 1 - n : Nat) : Int) := by omega
        have hjn : xs.length - 1 - n < a.length := by omega
        have hnn : n < a.length := by omega
        have aj : a[xs.length - 1 - n]? = xs[xs.length - 1 - n]? := by rw [hk _ (by omega), if_neg (by omega)]
        have an : a[n]? = xs[n]? := by rw [hk _ (by omega), if_neg (by omega)]
        refine ⟨((a.set n a[xs.length - 1 - n]).set (xs.length - 1 - n) a[n], ((n + 1 : Nat) : Int), (xs.length : Int) - 1 - ((n + 1 : Nat) : Int)), ?_, ⟨n + 1, rfl, rfl, by omega, by simpa using hl, ?_⟩, ?_⟩
        · simp only [F_impl_reversed_L1]
          rw [decide_eq_true (by omega), cond_true, hj, idx_nat hjn, bnd_some_eq, idx_nat hnn, bnd_some_eq, bnd_some_eq, idx_nat (by simpa using hjn), bnd_some_eq, w64_nat1 (by omega), w64_in (by omega) (by omega)]
          simp only [Int.toNat_natCast]
          congr 4
          omega
        · intro k hkl
          have hset : (((a.set n a[xs.length - 1 - n]).set (xs.length - 1 - n) a[n])[k]?) = if k = xs.length - 1 - n then a[n]? else if k = n then a[xs.length - 1 - n]? else a[k]? := by
            rw [List.getElem?_set, List.getElem?_set, List.length_set]
            by_cases e1 : xs.length - 1 - n = k
            · rw [if_pos e1, if_pos hjn, if_pos e1.symm, List.getElem?_eq_getElem hnn]
            · rw [if_neg e1]
              by_cases e2 : n = k
              · rw [if_pos e2, if_pos (by omega), if_neg (fun e => e1 e.symm), if_pos e2.symm, List.getElem?_eq_getElem hjn]
              · rw [if_neg e2, if_neg (fun e => e1 e.symm), if_neg (fun e => e2 e.symm)]
          rw [hset]
          by_cases e1 : k = xs.length - 1 - n
          · rw [if_pos e1, if_pos (by omega), an]
            congr 1
            omega
          · rw [if_neg e1]
            by_cases e2 : k = n
            · rw [if_pos e2, if_pos (by omega), aj, e2]
            · rw [if_neg e2, hk k hkl]
              by_cases c : k < n ∨ xs.length ≤ k + n
              · rw [if_pos c, if_pos (by omega)]
              · rw [if_neg c, if_neg (by omega)]
        · show ((xs.length : Int) - 1 - ((n + 1 : Nat) : Int) - ((n + 1 : Nat) : Int) + 1).toNat < ((xs.length : Int) - 1 - n - n + 1).toNat
          omega
      · right
        refine ⟨.brk (xs.reverse, (n : Int), (xs.length : Int) - 1 - n), ?_, _, _, rfl⟩
        have ha : a = xs.reverse := by
          apply List.ext_getElem?
          intro k
          by_cases hkl : k < xs.length
          · rw [hk k hkl, List.getElem?_reverse hkl]
            by_cases c : k < n ∨ xs.length ≤ k + n
            · rw [if_pos c]
            · rw [if_neg c]
              congr 1
              omega
          · rw [List.getElem?_eq_none (by omega), List.getElem?_eq_none (by simp; omega)]
        simp only [F_impl_reversed_L1]
        rw [decide_eq_false (by omega), cond_false, ha]) (xs, 0, (xs.length : Int) - 1) ⟨0, rfl, by simp, by omega, rfl, fun k hk => by rw [if_neg (by omega)]⟩
  rw [ho]
  rfl
end Go.Fn
