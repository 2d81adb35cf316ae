/-
  Dominoes of dominoes and of rules: the plain laws of PlainDominoes and RewritesToDominoes. No program in sight. No condition.
-/
import Derived.Test.YtabpcmbohmodnaaDoorPDom
namespace Go.Tc
open Go
theorem foldl_flat {β : Type} : ∀ (xs : List (List β)) (a : List β), xs.foldl (fun s x => s ++ x) a = a ++ xs.flatten
  | [], a => by simp
  | x :: xs, a => by rw [List.foldl_cons, foldl_flat xs]; simp
theorem slc_zero {α : Type} {xs : List α} : slc xs 0 ((0 : Nat) : Int) = some [] := by
  have := slc_ok (xs := xs) (lo := 0) (hi := 0) (Nat.le_refl 0) (Nat.zero_le _)
  simpa using this
theorem w64_00 : w64 (((0 : Nat) : Int) - ((0 : Nat) : Int)) = 0 := by
  rw [w64_in (by decide) (by decide)]; rfl
end Go.Tc
namespace Go.Fn
open Go Go.Tc
theorem impl_concat (xs : List (List Int)) (hn : xs.length ≤ 1048576) (h : xs.flatten.length ≤ 1048576) : F_slices_Concat_Sint64_int64 xs = some xs.flatten := by
  unfold F_slices_Concat_Sint64_int64
  have hdrop : ∀ (i : Nat) (hi : i < xs.length), (xs.drop i).flatten.length = xs[i].length + (xs.drop (i + 1)).flatten.length := fun i hi => by
    rw [List.drop_eq_getElem_cons hi, List.flatten_cons, List.length_append]
  obtain ⟨e1, e2⟩ := run_rowf (body := F_slices_Concat_Sint64_int64_L1 xs) xs (by omega) (fun (a : Int) i => (a, i)) (fun a x => a + (x.length : Int)) (fun i a => 0 ≤ a ∧ a + ((xs.drop i).flatten.length : Int) = (xs.flatten.length : Int)) (by
    rintro i hi a ⟨k0, k1⟩
    have := hdrop i hi
    have e : w64 (a + (xs[i].length : Int)) = a + (xs[i].length : Int) := w64_in (by omega) (by omega)
    refine ⟨?_, by omega, by omega⟩
    simp only [F_slices_Concat_Sint64_int64_L1, Int.ofNat_lt, hi, decide_true, cond_true, idx_nat hi, bnd_some_eq, e]
    rw [decide_eq_false (by omega), cond_false]) 0 ⟨by omega, by simp⟩
  rw [e1, run_done (x := .brk (xs.foldl (fun a x => a + (x.length : Int)) 0, (xs.length : Int))) (by simp [F_slices_Concat_Sint64_int64_L1])]
  rw [List.drop_length] at e2
  generalize xs.foldl (fun a x => a + (x.length : Int)) 0 = T at e2
  simp only [List.flatten_nil, List.length_nil] at e2
  simp only [bnd_some_eq, Out.elim]
  rw [decide_eq_false (by omega), cond_false, w64_00, w64_in (by omega) (by omega)]
  simp only [bnd_some_eq, Out.elim]
  have loop : ∀ (body : List Int × Int → Option ((List Int × Int) ⊕ Out (List Int × Int) (List Int))),
      (∀ (i : Nat) (hi : i < xs.length) (a : List Int), a.length + xs[i].length ≤ 1048576 → body (a, (i : Int)) = some (.inl (a ++ xs[i], w64 ((i : Int) + 1)))) →
      (∀ a, body (a, (xs.length : Int)) = some (.inr (.brk (a, (xs.length : Int))))) → run body ([], 0) = some (.brk (xs.flatten, (xs.length : Int))) := by
    intro body h1 h2
    have := (run_rowf (body := body) xs (by omega) (fun (a : List Int) i => (a, i)) (fun a x => a ++ x) (fun i a => a.length + (xs.drop i).flatten.length = xs.flatten.length) (by
      intro i hi a k
      have := hdrop i hi
      refine ⟨h1 i hi a (by omega), ?_⟩
      rw [List.length_append]; omega) [] (by simp)).1
    rw [foldl_flat, List.nil_append] at this
    rw [this, run_done (h2 _)]
  have l2 := loop (F_slices_Concat_Sint64_int64_L2 xs) (fun i hi a k => by
    simp only [F_slices_Concat_Sint64_int64_L2, Int.ofNat_lt, hi, decide_true, cond_true, idx_nat hi, bnd_some_eq]
    rw [app_ok (by omega), bnd_some_eq]) (fun a => by simp [F_slices_Concat_Sint64_int64_L2])
  have l3 := loop (F_slices_Concat_Sint64_int64_L3 xs) (fun i hi a k => by
    simp only [F_slices_Concat_Sint64_int64_L3, Int.ofNat_lt, hi, decide_true, cond_true, idx_nat hi, bnd_some_eq]
    rw [app_ok (by omega), bnd_some_eq]) (fun a => by simp [F_slices_Concat_Sint64_int64_L3])
  by_cases h0 : 0 < T - 0
  · rw [decide_eq_true h0, cond_true]
    obtain ⟨n, hn⟩ : ∃ n : Nat, T - 0 = n := ⟨(T - 0).toNat, by omega⟩
    rw [hn, mke_nat (by omega), bnd_some_eq, slc_zero, bnd_some_eq, l2]
    rfl
  · rw [decide_eq_false h0, cond_false, l3]
    rfl
theorem impl_joined (xs : List (List Int)) (hn : xs.length ≤ 1048576) (h : xs.flatten.length ≤ 1048576) : F_impl_joined xs = some xs.flatten := by
  unfold F_impl_joined
  rw [impl_concat xs hn h]
  rfl
end Go.Fn
