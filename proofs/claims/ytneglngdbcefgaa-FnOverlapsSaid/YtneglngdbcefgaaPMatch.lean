/-
  Matches of the plain dominoes; the plain laws of PlainMatch and ModifiedMatch. No program in sight. No condition.
-/
import Derived.Test.YtneglngdbcefgaaPPlain
namespace Go.Tc
open Go
/-- A loop over a row from a place on, that carries a datum. -/
theorem run_rowk {α σ S X : Type} {body : S → Option (S ⊕ X)} (xs : List α) (k : Nat) (st : σ → Nat → S) (f : σ → α → σ) (I : Nat → σ → Prop)
    (h : ∀ (i : Nat) (hi : i < xs.length) (a : σ), I i a → body (st a (k + i)) = some (.inl (st (f a xs[i]) (k + (i + 1)))) ∧ I (i + 1) (f a xs[i])) (a0 : σ) (h0 : I 0 a0) :
    run body (st a0 k) = run body (st (xs.foldl f a0) (k + xs.length)) ∧ I xs.length (xs.foldl f a0) := by
  have key : ∀ m i a, i + m = xs.length → I i a → run body (st a (k + i)) = run body (st ((xs.drop i).foldl f a) (k + xs.length)) ∧ I xs.length ((xs.drop i).foldl f a) := by
    intro m
    induction m with
    | zero =>
      intro i a hi hI
      obtain rfl : i = xs.length := by omega
      rw [List.drop_length]
      exact ⟨rfl, hI⟩
    | succ m ih =>
      intro i a hi hI
      have hlt : i < xs.length := by omega
      obtain ⟨e, hI'⟩ := h i hlt a hI
      rw [run_next e, List.drop_eq_getElem_cons hlt, List.foldl_cons]
      exact ih (i + 1) _ (by omega) hI'
  have := key xs.length 0 a0 (by omega) h0
  rwa [List.drop_zero, Nat.add_zero] at this
/-- The same, that ends at the first place that is not as asked for. -/
theorem run_rowkx {α σ S X : Type} {body : S → Option (S ⊕ X)} (xs : List α) (k : Nat) (st : σ → Nat → S) (f : σ → α → σ) (p : α → Bool) (I : Nat → σ → Prop)
    (h : ∀ (i : Nat) (hi : i < xs.length) (a : σ), I i a → p xs[i] = true → body (st a (k + i)) = some (.inl (st (f a xs[i]) (k + (i + 1)))) ∧ I (i + 1) (f a xs[i])) (a0 : σ) (h0 : I 0 a0) :
    run body (st a0 k) = run body (st ((xs.takeWhile p).foldl f a0) (k + (xs.takeWhile p).length)) ∧ I (xs.takeWhile p).length ((xs.takeWhile p).foldl f a0) := by
  have hle : (xs.takeWhile p).length ≤ xs.length := (List.takeWhile_prefix p).length_le
  have hget : ∀ i (hi : i < (xs.takeWhile p).length), (xs.takeWhile p)[i] = xs[i]'(Nat.lt_of_lt_of_le hi hle) := fun i hi => (List.takeWhile_prefix p).getElem hi
  refine run_rowk (xs.takeWhile p) k st f I (fun i hi a hI => ?_) a0 h0
  rw [hget i hi]
  refine h i _ a hI ?_
  rw [← hget i hi]
  exact List.all_eq_true.1 List.all_takeWhile _ (List.getElem_mem hi)
theorem getElem_drop1 {α : Type} {xs : List α} {i : Nat} (h : i < (xs.drop 1).length) : (xs.drop 1)[i] = xs[1 + i]'(by simp at h; omega) := List.getElem_drop
theorem slc_from {α : Type} {xs : List α} {lo : Nat} (h : lo ≤ xs.length) : slc xs (lo : Int) (xs.length : Int) = some (xs.drop lo) := by
  rw [slc_ok h (Nat.le_refl _), List.take_length]
end Go.Tc
namespace Go.Fn
open Go Go.Tc
theorem starW_last (w : List Int) (hw : w ≠ []) : (starW w true).getLast? = some 9 ∧ (starW w false).getLast? = w.getLast? := by
  rcases List.eq_nil_or_concat w with h | ⟨l, x, rfl⟩
  · exact absurd h hw
  · simp [starW]
theorem flatMap_last {α : Type} (f : α → List Int) (xs : List α) (x : α) (h : f x ≠ []) : ((xs ++ [x]).flatMap f).getLast? = (f x).getLast? := by
  rw [List.flatMap_append, List.flatMap_singleton, List.getLast?_append]
  cases hl : (f x).getLast? with
  | none => rw [List.getLast?_eq_none_iff] at hl; exact absurd hl h
  | some y => rfl
theorem findIdx_take {ms l : List Int} {x : Int} (hm : ms = l ++ [x]) (hh : ∀ y ∈ ms.head?, y ≠ x) :
    ∃ k, 1 ≤ k ∧ k < ms.length ∧ ms.findIdx? (fun y => decide (x = y)) = some k ∧ (ms.take k).drop 1 = (ms.drop 1).takeWhile (fun y => decide (y ≠ x)) := by
  cases ms with
  | nil => simp at hm
  | cons y t =>
    have hy : y ≠ x := hh y (by simp)
    have hxt : x ∈ t := by
      have : x ∈ y :: t := by rw [hm]; simp
      rcases List.mem_cons.1 this with h | h
      · exact absurd h.symm hy
      · exact h
    have key : ∀ t : List Int, x ∈ t → ∃ k, k < t.length ∧ t.findIdx? (fun y => decide (x = y)) = some k ∧ t.take k = t.takeWhile (fun y => decide (y ≠ x)) := by
      intro t
      induction t with
      | nil => intro h; simp at h
      | cons z t ih =>
        intro h
        by_cases e : z = x
        · refine ⟨0, by simp, ?_, ?_⟩
          · simp [List.findIdx?_cons, e]
          · simp [e]
        · rcases List.mem_cons.1 h with h | h
          · exact absurd h.symm e
          · obtain ⟨k, k1, k2, k3⟩ := ih h
            refine ⟨k + 1, by simp; omega, ?_, ?_⟩
            · rw [List.findIdx?_cons, k2]; simp [Ne.symm e]
            · rw [List.take_succ_cons, k3, List.takeWhile_cons]; simp [e]
    obtain ⟨k, k1, k2, k3⟩ := key t hxt
    refine ⟨k + 1, by omega, by simp; omega, ?_, ?_⟩
    · rw [List.findIdx?_cons, k2]; simp [Ne.symm hy]
    · rw [List.take_succ_cons, List.drop_succ_cons, List.drop_zero, k3]; rfl
end Go.Fn
