/-
  Naturals: what the plain functions on single naturals say. No condition.
-/
import Derived.Test.YtabpcmbohmodnaaDoorPValidTiles
namespace Go.Fn
open Go Go.Tc

theorem any_not {α : Type} (xs : List α) (p : α → Bool) : (!(xs.any fun x => !p x)) = xs.all p := by
  rw [List.not_any_eq_all_not]
  simp
theorem impl_equal (a b : List Int) (h : a.length ≤ 1048576) : F_slices_Equal_Sint64_int64 a b = some (decide (a = b)) := by
  unfold F_slices_Equal_Sint64_int64
  by_cases hl : a.length = b.length
  · rw [decide_eq_false (by omega), cond_false, run_all a.length (by omega) (fun i => decide (a[i]? = b[i]?)) (.ret false) (.brk (a.length : Int)) ?_ ?_ ?_]
    · by_cases e : a = b
      · subst e
        simp [Out.elim]
      · rw [if_neg, decide_eq_false e]
        · rfl
        · intro k
          refine e (List.ext_getElem? fun i => ?_)
          by_cases hi : i < a.length
          · simpa using k i hi
          · rw [List.getElem?_eq_none (by omega), List.getElem?_eq_none (by omega)]
    · intro i hi hp
      have hb : i < b.length := by omega
      simp [List.getElem?_eq_getElem hi, List.getElem?_eq_getElem hb] at hp
      simp [F_slices_Equal_Sint64_int64_L1, hi, idx_nat hi, idx_nat hb, hp]
    · intro i hi hp
      have hb : i < b.length := by omega
      simp [List.getElem?_eq_getElem hi, List.getElem?_eq_getElem hb] at hp
      simp [F_slices_Equal_Sint64_int64_L1, hi, idx_nat hi, idx_nat hb, hp]
    · simp [F_slices_Equal_Sint64_int64_L1]
  · rw [decide_eq_true (by omega), decide_eq_false (fun e => hl (by rw [e]))]; rfl
end Go.Fn
