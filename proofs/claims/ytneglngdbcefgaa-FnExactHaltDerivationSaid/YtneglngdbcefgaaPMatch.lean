/-
  Matches of the plain dominoes; the plain laws of PlainMatch and ModifiedMatch. No program in sight. No condition.
-/
import Derived.Test.YtneglngdbcefgaaPPlain
namespace Go.Tc
open Go
theorem slc_from {α : Type} {xs : List α} {lo : Nat} (h : lo ≤ xs.length) : slc xs (lo : Int) (xs.length : Int) = some (xs.drop lo) := by
  rw [slc_ok h (Nat.le_refl _), List.take_length]
end Go.Tc
namespace Go.Fn
open Go Go.Tc
theorem impl_index (xs : List Int) (x : Int) (h : xs.length ≤ 1048576) : F_slices_Index_Sint64_int64 xs x = some (match xs.findIdx? (fun y => decide (x = y)) with | none => -1 | some i => (i : Int)) := by
  unfold F_slices_Index_Sint64_int64
  refine run_find xs (by omega) (fun y => decide (x = y)) (fun i hi => ?_) (by simp [F_slices_Index_Sint64_int64_L1])
  simp only [F_slices_Index_Sint64_int64_L1, Int.ofNat_lt, hi, decide_true, cond_true, idx_nat hi, bnd_some_eq]
  by_cases e : x = xs[i]
  · simp [e]
  · simp [e]
end Go.Fn
