/-
  Dominoes of dominoes and of rules: the plain laws of PlainDominoes and RewritesToDominoes. No program in sight. No condition.
-/
import Derived.Test.YtlikagofgciflaaPDom
namespace Go.Tc
open Go
theorem foldl_flat {β : Type} : ∀ (xs : List (List β)) (a : List β), xs.foldl (fun s x => s ++ x) a = a ++ xs.flatten
 | [], a => by simp
 | x :: xs, a => by rw [List.foldl_cons, foldl_flat xs]; simp
theorem slc_zero {α : Type} {xs : List α} : slc xs 0 ((0 : Nat) : Int) = some [] := by
 have := slc_ok (xs := xs) (lo := 0) (hi := 0) (Nat.le_refl 0) (Nat.zero_le _)
 simpa using this
theorem w64_00 : w64 (((0 : Nat) : Int) - ((0 : Nat) : Int)) = 0 := by
 rw [w64_in (by decide) (by decide)]; rfl
end Go.Tc
namespace Go.Fn
open Go Go.Tc
end Go.Fn
