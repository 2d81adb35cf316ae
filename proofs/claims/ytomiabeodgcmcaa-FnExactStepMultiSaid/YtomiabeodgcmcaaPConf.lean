/-
  Rows turned round and trimmed; the plain law of ConfigOfRow. No program in sight. No condition.
-/
import Derived.Test.YtomiabeodgcmcaaPMach
namespace Go.Fn
open Go Go.Tc
def trimL (xs : List Int) : List Int := (xs.reverse.dropWhile fun x => decide (x = 0)).reverse
theorem trimL_nil : trimL [] = [] := rfl
theorem trimL_snoc (ys : List Int) (y : Int) : trimL (ys ++ [y]) = if y = 0 then trimL ys else ys ++ [y] := by
  unfold trimL
  rw [List.reverse_append, List.reverse_singleton, List.singleton_append, List.dropWhile_cons]
  by_cases h : y = 0
  · rw [if_pos h, decide_eq_true h, if_pos rfl]
  · rw [if_neg h, decide_eq_false h, if_neg (by simp), List.reverse_cons, List.reverse_reverse]
theorem trimL_len (xs : List Int) : (trimL xs).length ≤ xs.length := by
  unfold trimL
  rw [List.length_reverse]
  have := (List.dropWhile_suffix (l := xs.reverse) (fun x => decide (x = 0))).length_le
  simpa using this
theorem snoc_cases {α : Type} (xs : List α) : xs = [] ∨ ∃ ys y, xs = ys ++ [y] := by
  rcases List.eq_nil_or_concat xs with h | ⟨ys, y, h⟩
  · exact .inl h
  · exact .inr ⟨ys, y, by simpa using h⟩
theorem idx_snoc {α : Type} (ys : List α) (y : α) (h : ys.length ≤ 1048576) : idx (ys ++ [y]) (w64 (((ys ++ [y]).length : Int) - 1)) = some y := by
  have e : w64 (((ys ++ [y]).length : Int) - 1) = (ys.length : Int) := by
    rw [List.length_append, List.length_singleton, w64_in (by omega) (by omega)]
    omega
  rw [e, idx_nat (by simp)]
  simp
theorem slc0 {α : Type} {xs : List α} {hi : Nat} (h : hi ≤ xs.length) : slc xs 0 (hi : Int) = some (xs.take hi) := by
  have := slc_ok (xs := xs) (lo := 0) (hi := hi) (Nat.zero_le _) h
  rw [List.drop_zero] at this
  exact this
theorem run_trimmed : ∀ (n : Nat) (xs : List Int), xs.length = n → n ≤ 1048576 → run F_impl_trimmed_L1 xs = some (.brk (trimL xs))
  | 0, xs, h, _ => by
    obtain rfl : xs = [] := List.eq_nil_of_length_eq_zero h
    exact run_done rfl
  | n + 1, xs, h, hn => by
    rcases snoc_cases xs with rfl | ⟨ys, y, rfl⟩
    · simp at h
    have hy : ys.length = n := by simpa using h
    have hb : F_impl_trimmed_L1 (ys ++ [y]) = cond (decide (y = 0)) (some (.inl ys)) (some (.inr (.brk (ys ++ [y])))) := by
      unfold F_impl_trimmed_L1
      rw [decide_eq_true (by rw [h]; omega), cond_true, idx_snoc ys y (by omega), bnd_some_eq]
      have e : w64 (((ys ++ [y]).length : Int) - 1) = (ys.length : Int) := by
        rw [List.length_append, List.length_singleton, w64_in (by omega) (by omega)]
        omega
      rw [e, slc0 (by simp), bnd_some_eq, List.take_left]
    rw [trimL_snoc]
    by_cases hz : y = 0
    · rw [if_pos hz, run_next (by rw [hb, decide_eq_true hz]; rfl)]
      exact run_trimmed n ys hy (by omega)
    · rw [if_neg hz, run_done (by rw [hb, decide_eq_false hz]; rfl)]
theorem impl_trimmed (xs : List Int) (h : xs.length ≤ 1048576) : F_impl_trimmed xs = some (trimL xs) := by
  unfold F_impl_trimmed
  rw [run_trimmed _ xs rfl h]
  rfl
theorem spec_own' (xs : List Int) (h : xs.length ≤ 1048576) : F_spec_l00Own xs = some xs := by
  unfold F_spec_l00Own
  rw [app_ok (by simp; omega)]
  rfl
theorem impl_clone' (xs : List Int) (h : xs.length ≤ 1048576) : F_slices_Clone_Sint64_int64 xs = some xs := by
  unfold F_slices_Clone_Sint64_int64
  rw [app_ok (by simp; omega)]
  rfl
/-- A loop that goes down while the datum ahead is zero. -/
theorem run_trim {body : Int → Option (Int ⊕ Out Int (List Int))} (xs : List Int) (h : xs.length ≤ 1048576) (h0 : body 0 = some (.inr (.brk 0)))
    (h1 : ∀ (n : Nat) (hn : n < xs.length), body ((n : Int) + 1) = cond (decide (xs[n] = 0)) (some (.inl (n : Int))) (some (.inr (.brk ((n : Int) + 1))))) :
    ∀ n : Nat, n ≤ xs.length → ∃ k : Nat, k ≤ xs.length ∧ run body (n : Int) = some (.brk (k : Int)) ∧ xs.take k = trimL (xs.take n)
  | 0, _ => ⟨0, Nat.zero_le _, run_done h0, by simp [trimL_nil]⟩
  | n + 1, hn => by
    have hlt : n < xs.length := by omega
    have et : xs.take (n + 1) = xs.take n ++ [xs[n]] := (List.take_append_getElem hlt).symm
    rw [et, trimL_snoc]
    by_cases hz : xs[n] = 0
    · obtain ⟨k, hk, hr, e⟩ := run_trim xs h h0 h1 n (by omega)
      refine ⟨k, hk, ?_, by rw [if_pos hz]; exact e⟩
      rw [Int.natCast_add, Int.natCast_one, run_next (by rw [h1 n hlt, decide_eq_true hz]; rfl)]
      exact hr
    · refine ⟨n + 1, hn, ?_, by rw [if_neg hz, et]⟩
      rw [Int.natCast_add, Int.natCast_one, run_done (by rw [h1 n hlt, decide_eq_false hz]; rfl)]
theorem run_reverse {body : List Int × Int → Option ((List Int × Int) ⊕ Out (List Int × Int) (List Int))} (xs : List Int) (h : xs.length ≤ 1048576)
    (h0 : ∀ a, body (a, -1) = some (.inr (.brk (a, -1)))) (h1 : ∀ (a : List Int) (n : Nat) (hn : n < xs.length), a.length ≤ 1048576 → body (a, (n : Int)) = some (.inl (a ++ [xs[n]], (n : Int) - 1))) :
    ∀ (n : Nat) (a : List Int), n ≤ xs.length → a.length + n ≤ xs.length → run body (a, (n : Int) - 1) = some (.brk (a ++ (xs.take n).reverse, -1))
  | 0, a, _, _ => by
    rw [show ((0 : Nat) : Int) - 1 = -1 from rfl, run_done (h0 a)]
    simp
  | n + 1, a, hn, ha => by
    have hlt : n < xs.length := by omega
    have et : xs.take (n + 1) = xs.take n ++ [xs[n]] := (List.take_append_getElem hlt).symm
    rw [show (((n + 1 : Nat) : Int) - 1) = (n : Int) by omega, run_next (h1 a n hlt (by omega)), run_reverse xs h h0 h1 n _ (by omega) (by simp; omega), et, List.reverse_append, List.append_assoc]
    rfl
theorem inB_false {x lo hi : Int} (h : ¬ (lo ≤ x ∧ x ≤ hi)) : inB x lo hi = false := by
  cases e : inB x lo hi
  · rfl
  · exact absurd (inB_iff.1 e) h
end Go.Fn
