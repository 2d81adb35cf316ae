/-
  The plain law of TopOf. No program in sight. No condition.
-/
import Derived.Test.YtgojoooilijiiaaPTiling
import Derived.Test.YtgojoooilijiiaaLaw
namespace Go.Fn
open Go Go.Tc
theorem topsM_length {ts : List GTile} : ∀ {rows : List (List Int)} {cur : List Int} {tl : List (List Int)}, topsM ts cur rows = some tl → tl.length = rows.length
  | [], _, tl, h => by simp [topsM] at h; subst h; rfl
  | r :: rs, cur, tl, h => by
    simp only [topsM, Option.bind_eq_some_iff, Option.map_eq_some_iff] at h
    obtain ⟨t0, h1, tl', h2, rfl⟩ := h
    simp [topsM_length h2]
theorem idx_end {α : Type} {xs : List α} (d : α) (h0 : xs.length ≠ 0) (h : xs.length ≤ 1048576) : idx xs (w64 ((xs.length : Int) - 1)) = some (xs.getLastD d) := by
  rw [w64_in (by omega) (by omega), show ((xs.length : Int) - 1) = ((xs.length - 1 : Nat) : Int) by omega, idx_nat (by omega)]
  rw [← List.getLast_eq_getElem (by intro e; simp [e] at h0), List.getLastD_eq_getLast?]
  rw [List.getLast?_eq_some_getLast (by intro e; simp [e] at h0)]
  rfl
end Go.Fn
