/-
  Machines; the plain law of TilesOfMachine. No program in sight. No condition.
-/
import Derived.Test.YtgojoooilijiiaaPRun
import Derived.Test.YtgojoooilijiiaaLaw
namespace Go.Tc
open Go
/-- A loop over 0, 1, .. n-1 that appends. -/
theorem run_rangeL {β S X : Type} {body : S → Option (S ⊕ X)} (n : Nat) (hn : n ≤ 4611686018427387903) (st : List β → Int → S) (g : Nat → List β) (m : Nat) (hg : ∀ k, k < n → (g k).length ≤ m) (a0 : List β) (B : Nat) (h0 : a0.length ≤ B)
    (h : ∀ (i : Nat) (a : List β), i < n → a.length ≤ B + i * m → body (st a (i : Int)) = some (.inl (st (a ++ g i) (w64 ((i : Int) + 1))))) :
    run body (st a0 0) = run body (st (a0 ++ (List.range n).flatMap g) (n : Int)) := by
  have := (run_rowf (body := body) (List.range n) (by simpa using hn) st (fun a k => a ++ g k) (fun i a => a.length ≤ B + i * m) (by
    intro i hi a k
    simp only [List.length_range] at hi
    simp only [List.getElem_range]
    refine ⟨h i a hi k, ?_⟩
    have := hg i hi
    rw [List.length_append, Nat.succ_mul]
    omega) a0 (by omega)).1
  rw [foldl_app1, List.length_range] at this
  exact this
end Go.Tc
namespace Go.Fn
open Go Go.Tc
theorem inB_iff {x lo hi : Int} : inB x lo hi = true ↔ lo ≤ x ∧ x ≤ hi := by
  unfold inB
  simp only [Bool.and_eq_true, decide_eq_true_eq]
end Go.Fn
