/-
  The law FnMeasured. No program in sight. No condition.
-/
import Derived.Test.YtfinlgodcokmpaaDoorPMeaA
import Derived.Test.YtfinlgodcokmpaaDoorPMeaB
import Derived.Test.YtfinlgodcokmpaaDoorPR8
namespace Go.Fn
open Go Go.Tc
section
variable {m : GMachine} {s q : Nat}
def blankC : GConfig := ⟨0, [], []⟩
theorem blank_ok (h : machB m = true) : confB m blankC = true := by
  obtain ⟨s, q, hs, hq, b1, b2, b3, b4, _⟩ := machB_nat h
  unfold confB
  rw [show sideB m.Symbols blankC.Left = true from rfl, show sideB m.Symbols blankC.Right = true from rfl, Bool.and_true, Bool.and_true]
  exact inB_iff.2 (by show (0 : Int) ≤ 0 ∧ (0 : Int) ≤ m.States - 1; omega)
theorem blank_rm (M : MaI m s q) (h : confB m blankC = true) {n : Nat} (hn : n ≤ 60) : Rm s q n blankC 0 0 :=
  ⟨CfT.of M h, by show 0 + n ≤ 150; omega, by show 0 + 2 * n ≤ 150; omega, by omega, by omega, by omega⟩
def tr (m : GMachine) (n : Nat) : List Int := trk m n blankC 0
def lo0 (m : GMachine) (n : Nat) : Int := (tr m n).foldl mnL 0
def hi0 (m : GMachine) (n : Nat) : Int := (tr m n).foldl mxG 0
theorem run_code (hm : machB m = true) {n : Nat} (h1 : 1 ≤ n) (h2 : n ≤ 20000) : F_impl_runCode m blankC (n : Int) = some 0 := by
  have hc := blank_ok hm
  unfold F_impl_runCode F_impl_budgetOk
  rw [impl_confV m blankC (machB_sml hm) (confB_sml hc), bnd_some_eq, hm, hc, impl_in, inB_iff.2 (by omega), bnd_some_eq]
  rfl
theorem mea_budgeted (hm : machB m = true) {n : Nat} (h1 : 1 ≤ n) (h2 : n ≤ 20000) : F_impl_budgeted m (n : Int) = some 0 := by
  unfold F_impl_budgeted
  have : F_impl_runCode m (⟨0, ([] : List Int), ([] : List Int)⟩ : GConfig) (n : Int) = some 0 := run_code hm h1 h2
  rw [this]
  rfl
theorem mm_fold : ∀ (l : List Int) (a b : Int), l.foldl (fun (s : Int × Int) y => (mnL s.1 y, mxG s.2 y)) (a, b) = (l.foldl mnL a, l.foldl mxG b)
  | [], a, b => rfl
  | x :: l, a, b => by rw [List.foldl_cons, mm_fold l, List.foldl_cons, List.foldl_cons]
theorem run_up {A : Type} {body : Int → Option (Int ⊕ A)} : ∀ (n k : Nat), (∀ j : Nat, k ≤ j → j < k + n → body (j : Int) = some (.inl ((j + 1 : Nat) : Int))) → run body (k : Int) = run body ((k + n : Nat) : Int)
  | 0, k, _ => rfl
  | n + 1, k, h => by
    rw [run_next (h k (Nat.le_refl _) (by omega)), run_up n (k + 1) (fun j h1 h2 => h j (by omega) (by omega))]
    congr 1
    omega
end
end Go.Fn
