/-
  Dominoes of rewriting rules: the plain law of RewritesToDominoes. No program in sight. No condition.
-/
import Derived.Test.YtlbbchonoomafaaPPlain
namespace Go.Fn
open Go Go.Tc
theorem two_words (a b : List Int) (ha : Sml a) (hb : Sml b) : F_impl_areWords [a, b] = some (wordB a && wordB b) := by
  rw [impl_areWords [a, b] ⟨by simp, by simp only [List.mem_cons, List.not_mem_nil, or_false]; exact fun x hx => hx.elim (fun e => e ▸ ha) (fun e => e ▸ hb)⟩]
  simp
theorem wordB_len {w : List Int} (h : wordB w = true) : w.length ≤ 400 := by
  unfold wordB at h
  simp only [Bool.and_eq_true, decide_eq_true_eq] at h
  exact h.1
def letD (k : Nat) : GDomino := ⟨[(k : Int)], [(k : Int)]⟩
def headL (f : List Int) : List GDomino := [⟨[6], 6 :: (f ++ [6])⟩] ++ (List.range 6).map letD ++ [⟨[6], [6]⟩]
theorem headL_len (f : List Int) : (headL f).length = 8 := by simp [headL]
def smallB (xs : List Int) : Bool := xs.all fun x => inB x 0 5
/-- The loop over the letters. -/
theorem run_letters {R : Type} {body : List GDomino × Int → Option ((List GDomino × Int) ⊕ Out (List GDomino × Int) R)} (a : List GDomino) (ha : a.length ≤ 10)
    (h1 : ∀ (i : Nat) (b : List GDomino), i < 6 → b.length ≤ 20 → body (b, (i : Int)) = some (.inl (b ++ [letD i], w64 ((i : Int) + 1))))
    (h2 : ∀ b, body (b, 6) = some (.inr (.brk (b, 6)))) : run body (a, 0) = some (.brk (a ++ (List.range 6).map letD, 6)) := by
  have := (run_rowf (body := body) (List.range 6) (by simp) (fun (a : List GDomino) i => (a, i)) (fun a k => a ++ [letD k]) (fun i b => b.length ≤ 10 + i) (by
    intro i hi b k
    simp only [List.length_range] at hi
    simp only [List.getElem_range]
    exact ⟨h1 i b hi (by omega), by simp; omega⟩) a (by omega)).1
  rw [foldl_snoc, List.length_range] at this
  rw [this]
  exact run_done (h2 _)
theorem spec_own (xs : List Int) (h : xs.length ≤ 1048576) : F_spec_l00Own xs = some xs := by
  unfold F_spec_l00Own
  rw [app_ok (by simp; omega)]
  rfl
theorem impl_clone (xs : List Int) (h : xs.length ≤ 1048576) : F_slices_Clone_Sint64_int64 xs = some xs := by
  unfold F_slices_Clone_Sint64_int64
  rw [app_ok (by simp; omega)]
  rfl
end Go.Fn
