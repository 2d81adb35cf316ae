/-
  Matches of the plain dominoes; the plain laws of PlainMatch and ModifiedMatch. No program in sight. No condition.
-/
import Derived.Test.YtafjflnnkdbmdaaPPlain
namespace Go.Tc
open Go
theorem slc_from {α : Type} {xs : List α} {lo : Nat} (h : lo ≤ xs.length) : slc xs (lo : Int) (xs.length : Int) = some (xs.drop lo) := by
  rw [slc_ok h (Nat.le_refl _), List.take_length]
end Go.Tc
namespace Go.Fn
open Go Go.Tc
end Go.Fn
