/-
  Derivations that a search finds; the plain law of DerivationOf. No program in sight. No condition.
-/
import Derived.Test.YtneglngdbcefgaaPSearch
namespace Go.Fn
open Go Go.Tc
/-- Each word but the first was found from one before it. -/
def TreeF (fs : List Gfound) : Prop := ∀ (i : Nat) (h : i < fs.length), if i = 0 then fs[i].parent = -1 else 0 ≤ fs[i].parent ∧ fs[i].parent < i
theorem TreeF.add {fs : List Gfound} (h : TreeF fs) {m : Gmove} {k : Nat} (hk : k < fs.length) : TreeF (fs ++ [toF m k]) := by
  intro i hi
  by_cases hlt : i < fs.length
  · rw [List.getElem_append_left hlt]
    exact h i hlt
  · have : i = fs.length := by simp at hi; omega
    subst this
    rw [if_neg (by omega)]
    simp [toF]
    omega
end Go.Fn
