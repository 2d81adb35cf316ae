/-
  Dominoes of dominoes and of rules: the plain laws of PlainDominoes and RewritesToDominoes. No program in sight. No condition.
-/
import Derived.Test.YtabpcmbohmodnaaPDom
namespace Go.Tc
open Go
theorem foldl_snoc {α β : Type} (f : α → β) : ∀ (xs : List α) (a : List β), xs.foldl (fun s x => s ++ [f x]) a = a ++ xs.map f
  | [], a => by simp
  | x :: xs, a => by rw [List.foldl_cons, foldl_snoc f xs]; simp
theorem foldl_flat {β : Type} : ∀ (xs : List (List β)) (a : List β), xs.foldl (fun s x => s ++ x) a = a ++ xs.flatten
  | [], a => by simp
  | x :: xs, a => by rw [List.foldl_cons, foldl_flat xs]; simp
theorem all_and {α : Type} (p q : α → Bool) : ∀ xs : List α, (xs.all fun x => p x && q x) = (xs.all p && xs.all q)
  | [] => rfl
  | x :: xs => by
    rw [List.all_cons, List.all_cons, List.all_cons, all_and p q xs]
    cases p x <;> cases q x <;> simp
theorem slc_zero {α : Type} {xs : List α} : slc xs 0 ((0 : Nat) : Int) = some [] := by
  have := slc_ok (xs := xs) (lo := 0) (hi := 0) (Nat.le_refl 0) (Nat.zero_le _)
  simpa using this
theorem w64_00 : w64 (((0 : Nat) : Int) - ((0 : Nat) : Int)) = 0 := by
  rw [w64_in (by decide) (by decide)]; rfl
end Go.Tc
namespace Go.Fn
open Go Go.Tc
def starW (w : List Int) (b : Bool) : List Int := w.flatMap fun c => cond b [c, 9] [9, c]
theorem starW_len (w : List Int) (b : Bool) : (starW w b).length ≤ w.length * 2 := flatMap_length_le _ w fun c _ => by cases b <;> simp
theorem run_star {body : List Int × Int → Option ((List Int × Int) ⊕ Out (List Int × Int) (List Int))} (w : List Int) (b : Bool) (hw : w.length ≤ 1048576)
    (h1 : ∀ (i : Nat) (hi : i < w.length) (a : List Int), a.length ≤ 2 * i → body (a, (i : Int)) = some (.inl (a ++ cond b [w[i], 9] [9, w[i]], w64 ((i : Int) + 1))))
    (h2 : ∀ a, body (a, (w.length : Int)) = some (.inr (.brk (a, (w.length : Int))))) : run body ([], 0) = some (.brk (starW w b, (w.length : Int))) := by
  have := (run_rowf (body := body) w (by omega) (fun (a : List Int) i => (a, i)) (fun a c => a ++ cond b [c, 9] [9, c]) (fun i a => a.length ≤ 2 * i) (by
    intro i hi a k
    refine ⟨h1 i hi a k, ?_⟩
    rw [List.length_append]
    cases b <;> simp <;> omega) [] (by simp)).1
  rw [foldl_app1, List.nil_append] at this
  rw [this, run_done (h2 _)]
  rfl
theorem dec_zero (n : Nat) : decide ((n : Int) = 0) = !decide (n ≠ 0) := by
  by_cases h : n = 0
  · subst h; rfl
  · rw [decide_eq_false (by omega : ¬ (n : Int) = 0), decide_eq_true h]; rfl
end Go.Fn
