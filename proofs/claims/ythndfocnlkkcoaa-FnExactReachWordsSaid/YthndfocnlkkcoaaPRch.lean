/-
  ReachWords. No program in sight. No condition.
-/
import Derived.Test.YthndfocnlkkcoaaPFind
namespace Go.Fn
open Go Go.Tc
theorem impl_wordsOf (fs : List Gfound) (nums : List (ByteArray × Int)) (c : Bool) (h : fs.length ≤ 300) : ∀ (k i : Nat), i + k = fs.length → run (F_impl_ReachWords_L1 (fs, nums, c)) ((wF fs).take i, (i : Int)) = some (.brk (wF fs, (fs.length : Int)))
  | 0, i, hi => by
    obtain rfl : i = fs.length := by omega
    have e : (wF fs).take fs.length = wF fs := List.take_of_length_le (by simp [wF])
    rw [e]
    refine run_done ?_
    simp only [F_impl_ReachWords_L1, Int.lt_irrefl, decide_false, cond_false]
  | k + 1, i, hi => by
    have hlt : i < fs.length := by omega
    have hw : (wF fs).take (i + 1) = (wF fs).take i ++ [fs[i].move_word] := by
      rw [List.take_succ_eq_append_getElem (by simp [wF]; omega)]
      simp [wF]
    have hb : F_impl_ReachWords_L1 (fs, nums, c) ((wF fs).take i, (i : Int)) = some (.inl ((wF fs).take (i + 1), ((i + 1 : Nat) : Int))) := by
      simp only [F_impl_ReachWords_L1]
      rw [decide_eq_true (by omega : (i : Int) < (fs.length : Int)), cond_true, idx_nat hlt, bnd_some_eq, app_ok (by simp; omega), bnd_some_eq, w64_nat1 (by omega), hw]
    rw [run_next hb]
    exact impl_wordsOf fs nums c h k (i + 1) (by omega)
theorem wF_fit {rs : List GRewrite} {f : List Int} {b : Int} (hr : rewsB rs = true) (hf : wordB f = true) : Med (wF (sch rs f b).1) ∧ Cnt.cnt (wF (sch rs f b).1) ≤ 1152921504606846976 := by
  obtain ⟨_, pG, pl, _⟩ := sch_props (b := b) hr hf
  refine rows_fit (by simp [wF]; omega) fun x hx => ?_
  obtain ⟨g, hg, rfl⟩ := List.mem_map.1 hx
  have := wordB_len (pG g hg)
  omega
theorem ex_ReachWords (rs : List GRewrite) (f : List Int) (b : Int) (s0 : Sml rs) (s1 : Sml f) :
    ∃ w : (List (List Int)) × Bool × Int, F_spec_ReachWords rs f b = some w ∧ F_impl_ReachWords rs f b = some w ∧ Med w.1 ∧ Cnt.cnt w.1 ≤ 1152921504606846976 := by
  have nil : ∀ k : Bool × Int, Med ((([] : List (List Int)), k) : List (List Int) × Bool × Int).1 ∧ Cnt.cnt ((([] : List (List Int)), k) : List (List Int) × Bool × Int).1 ≤ 1152921504606846976 := fun k => rows_fit (by simp) (by simp)
  unfold F_spec_ReachWords F_impl_ReachWords F_impl_searchCode F_spec_l05Budget F_impl_budgetOk
  rw [spec_rews rs s0, spec_word f s1.1, impl_rews rs s0, impl_areWords [f] ⟨by simp, by simp only [List.mem_cons, List.not_mem_nil, or_false]; exact fun x hx => hx ▸ s1⟩, spec_in, impl_in]
  simp only [bnd_some_eq, List.all_cons, List.all_nil, Bool.and_true]
  cases hr : rewsB rs
  · exact ⟨_, rfl, rfl, nil _⟩
  cases hf : wordB f
  · exact ⟨_, rfl, rfl, nil _⟩
  cases hb : inB b 1 20000
  · exact ⟨_, rfl, rfl, nil _⟩
  have k0 : decide ((0 : Int) ≠ 0) = false := rfl
  simp only [Bool.not_true, cond_false, bnd_some_eq, Out.elim, k0]
  obtain ⟨n1, _, e1⟩ := impl_searched (b := b) hr hf
  obtain ⟨_, _, pl, _⟩ := sch_props (b := b) hr hf
  have hrun := impl_wordsOf (sch rs f b).1 n1 (sch rs f b).2 pl (sch rs f b).1.length 0 (by omega)
  rw [List.take_zero, show ((0 : Nat) : Int) = 0 from rfl] at hrun
  rw [spec_l10find hr hf, e1]
  simp only [bnd_some_eq]
  rw [hrun]
  exact ⟨(wF (sch rs f b).1, (sch rs f b).2, 0), rfl, rfl, wF_fit hr hf⟩
theorem law_ReachWords (rs : List GRewrite) (f : List Int) (b : Int) (w0 : Wf.wf rs) (w1 : Wf.wf f) (w2 : Wf.wf b) : F_laws_FnExactReachWords rs f b = some true :=
  lawof_ReachWords rs f b w0 w1 w2 (ex_ReachWords rs f b)
end Go.Fn
