/-
  Derivations of matches; the plain law of DerivationOfMatch. No program in sight. No condition.
-/
import Derived.Test.YtneglngdbcefgaaPRules
import Derived.Test.YtneglngdbcefgaaPMatch
namespace Go.Fn
open Go Go.Tc
theorem rows_fit {xs : List (List Int)} (h1 : xs.length ≤ 1048576) (h2 : ∀ x ∈ xs, x.length ≤ 1048576) : Med xs ∧ Cnt.cnt xs ≤ 1152921504606846976 :=
  ⟨⟨by omega, fun x hx => ⟨by have := h2 x hx; omega, fun _ _ => trivial⟩⟩, Nat.le_trans (cnt_le (n := 1048576) (m := 1048576) h1 (fun x hx => by rw [cnt_ints]; exact h2 x hx)) (by decide)⟩
end Go.Fn
