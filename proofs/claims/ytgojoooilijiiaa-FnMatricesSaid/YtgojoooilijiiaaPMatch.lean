/-
  Matches of the plain dominoes; the plain laws of PlainMatch and ModifiedMatch. No program in sight. No condition.
-/
import Derived.Test.YtgojoooilijiiaaPPlain
namespace Go.Tc
open Go
theorem slc_from {α : Type} {xs : List α} {lo : Nat} (h : lo ≤ xs.length) : slc xs (lo : Int) (xs.length : Int) = some (xs.drop lo) := by
  rw [slc_ok h (Nat.le_refl _), List.take_length]
end Go.Tc
namespace Go.Fn
open Go Go.Tc
theorem impl_moved (xs : List Int) (k : Int) (h : xs.length ≤ 1048576) : F_impl_moved xs k = some (xs.map fun x => w64 (x + k)) := by
  unfold F_impl_moved
  have := (run_rowf (body := F_impl_moved_L1 xs k) xs (by omega) (fun (a : List Int) i => (a, i)) (fun a x => a ++ [w64 (x + k)]) (fun i a => a.length = i) (by
    intro i hi a hk
    refine ⟨?_, by simp [hk]⟩
    simp only [F_impl_moved_L1, Int.ofNat_lt, hi, decide_true, cond_true, idx_nat hi, bnd_some_eq]
    rw [app_ok (by simp; omega), bnd_some_eq]) [] rfl).1
  rw [foldl_snoc, List.nil_append] at this
  rw [this, run_done (x := .brk (xs.map fun x => w64 (x + k), (xs.length : Int))) (by simp [F_impl_moved_L1])]
  rfl
end Go.Fn
