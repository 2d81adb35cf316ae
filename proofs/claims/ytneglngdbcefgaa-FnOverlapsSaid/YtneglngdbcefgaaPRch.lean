/-
  ReachWords. No program in sight. No condition.
-/
import Derived.Test.YtneglngdbcefgaaPFind
namespace Go.Fn
open Go Go.Tc
theorem impl_wordsOf (fs : List Gfound) (nums : List (ByteArray × Int)) (c : Bool) (h : fs.length ≤ 300) : ∀ (k i : Nat), i + k = fs.length → run (F_impl_ReachWords_L1 (fs, nums, c)) ((wF fs).take i, (i : Int)) = some (.brk (wF fs, (fs.length : Int)))
  | 0, i, hi => by
    obtain rfl : i = fs.length := by omega
    have e : (wF fs).take fs.length = wF fs := List.take_of_length_le (by simp [wF])
    rw [e]
    refine run_done ?_
    simp only [F_impl_ReachWords_L1, Int.lt_irrefl, decide_false, cond_false]
  | k + 1, i, hi => by
    have hlt : i < fs.length := by omega
    have hw : (wF fs).take (i + 1) = (wF fs).take i ++ [fs[i].move_word] := by
      rw [List.take_succ_eq_append_getElem (by simp [wF]; omega)]
      simp [wF]
    have hb : F_impl_ReachWords_L1 (fs, nums, c) ((wF fs).take i, (i : Int)) = some (.inl ((wF fs).take (i + 1), ((i + 1 : Nat) : Int))) := by
      simp only [F_impl_ReachWords_L1]
      rw [decide_eq_true (by omega : (i : Int) < (fs.length : Int)), cond_true, idx_nat hlt, bnd_some_eq, app_ok (by simp; omega), bnd_some_eq, w64_nat1 (by omega), hw]
    rw [run_next hb]
    exact impl_wordsOf fs nums c h k (i + 1) (by omega)
theorem wF_fit {rs : List GRewrite} {f : List Int} {b : Int} (hr : rewsB rs = true) (hf : wordB f = true) : Med (wF (sch rs f b).1) ∧ Cnt.cnt (wF (sch rs f b).1) ≤ 1152921504606846976 := by
  obtain ⟨_, pG, pl, _⟩ := sch_props (b := b) hr hf
  refine rows_fit (by simp [wF]; omega) fun x hx => ?_
  obtain ⟨g, hg, rfl⟩ := List.mem_map.1 hx
  have := wordB_len (pG g hg)
  omega
end Go.Fn
