/-
  Dominoes of dominoes and of rules: the plain laws of PlainDominoes and RewritesToDominoes. No program in sight. No condition.
-/
import Derived.Test.YtcgaddlkebifdaaPDom
namespace Go.Tc
open Go
theorem foldl_snoc {α β : Type} (f : α → β) : ∀ (xs : List α) (a : List β), xs.foldl (fun s x => s ++ [f x]) a = a ++ xs.map f
  | [], a => by simp
  | x :: xs, a => by rw [List.foldl_cons, foldl_snoc f xs]; simp
end Go.Tc
namespace Go.Fn
open Go Go.Tc
end Go.Fn
