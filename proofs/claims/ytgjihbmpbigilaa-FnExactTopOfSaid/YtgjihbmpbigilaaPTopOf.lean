/-
  The plain law of TopOf. No program in sight. No condition.
-/
import Derived.Test.YtgjihbmpbigilaaPTiling
import Derived.Test.YtgjihbmpbigilaaLaw
namespace Go.Fn
open Go Go.Tc
theorem topsM_mem {ts : List GTile} : ∀ {rows : List (List Int)} {cur : List Int} {tl : List (List Int)}, topsM ts cur rows = some tl → ∀ t ∈ tl, ∃ r ∈ rows, t.length = r.length
  | [], _, tl, h, t, ht => by simp [topsM] at h; subst h; simp at ht
  | r :: rs, cur, tl, h, t, ht => by
    simp only [topsM, Option.bind_eq_some_iff, Option.map_eq_some_iff] at h
    obtain ⟨t0, h1, tl', h2, rfl⟩ := h
    rcases List.mem_cons.1 ht with rfl | ht
    · exact ⟨r, by simp, (rowM_len h1).2⟩
    · obtain ⟨r', hr', e⟩ := topsM_mem h2 t ht
      exact ⟨r', by simp [hr'], e⟩
theorem topsM_length {ts : List GTile} : ∀ {rows : List (List Int)} {cur : List Int} {tl : List (List Int)}, topsM ts cur rows = some tl → tl.length = rows.length
  | [], _, tl, h => by simp [topsM] at h; subst h; rfl
  | r :: rs, cur, tl, h => by
    simp only [topsM, Option.bind_eq_some_iff, Option.map_eq_some_iff] at h
    obtain ⟨t0, h1, tl', h2, rfl⟩ := h
    simp [topsM_length h2]
theorem idx_end {α : Type} {xs : List α} (d : α) (h0 : xs.length ≠ 0) (h : xs.length ≤ 1048576) : idx xs (w64 ((xs.length : Int) - 1)) = some (xs.getLastD d) := by
  rw [w64_in (by omega) (by omega), show ((xs.length : Int) - 1) = ((xs.length - 1 : Nat) : Int) by omega, idx_nat (by omega)]
  rw [← List.getLast_eq_getElem (by intro e; simp [e] at h0), List.getLastD_eq_getLast?]
  rw [List.getLast?_eq_some_getLast (by intro e; simp [e] at h0)]
  rfl
theorem ex_TopOf (ts : List GTile) (bottom : List Int) (rows : List (List Int)) (s0 : Sml ts) (s1 : Sml bottom) (s2 : Sml rows) :
    ∃ w : List Int × Int, F_spec_TopOf ts bottom rows = some w ∧ F_impl_TopOf ts bottom rows = some w ∧ Med w.1 ∧ Cnt.cnt w.1 ≤ 1152921504606846976 := by
  have hv := spec_valid ts s0.1
  unfold F_spec_ValidTiles at hv
  have hv2 : F_spec_l33Is ts = some (validT ts) := by
    cases e : F_spec_l33Is ts with
    | none => rw [e] at hv; simp at hv
    | some b => rw [e] at hv; simpa using hv
  have hnil : Med ([] : List Int) ∧ Cnt.cnt ([] : List Int) ≤ 1152921504606846976 := ⟨⟨by simp, by simp⟩, by decide⟩
  unfold F_spec_TopOf F_impl_TopOf
  rw [hv2, bnd_some_eq, spec_frame bottom s1.1, impl_valid ts s0.1, bnd_some_eq, impl_frame bottom s1.1]
  cases validT ts
  · exact ⟨_, rfl, rfl, hnil⟩
  cases hf : frameB bottom
  · exact ⟨_, rfl, rfl, hnil⟩
  have hb0 : 0 < bottom.length := by
    unfold frameB at hf
    simp only [Bool.and_eq_true, decide_eq_true_eq] at hf
    exact hf.1.1
  obtain ⟨q, hq, k⟩ := spec_top ts bottom rows s0.1 s1.1 s2.1
  rw [hq, impl_tops ts bottom rows s0.1 hb0 s1.1 s2]
  simp only [Bool.not_true, cond_false, bnd_some_eq]
  rcases k with ⟨k1, rfl⟩ | ⟨tl, k1, rfl⟩
  · rw [k1]
    refine ⟨_, rfl, ?_, hnil⟩
    split <;> rfl
  · rw [k1]
    cases hfe : fewB rows
    · exact ⟨_, rfl, rfl, hnil⟩
    · have hl := topsM_length k1
      have hr0 : tl.length ≠ 0 := by
        unfold fewB at hfe
        simp only [Bool.and_eq_true, decide_eq_true_eq] at hfe
        omega
      have hlast : tl.getLastD bottom ∈ tl := by
        rw [List.getLastD_eq_getLast?, List.getLast?_eq_some_getLast (by intro e; simp [e] at hr0)]
        exact List.getLast_mem _
      obtain ⟨r, hr, e⟩ := topsM_mem k1 _ hlast
      have hlen : (tl.getLastD bottom).length ≤ 1048576 := by rw [e]; exact (s2.2 r hr).1
      refine ⟨(tl.getLastD bottom, 0), rfl, ?_, ⟨by show (tl.getLastD bottom).length ≤ _; omega, fun _ _ => trivial⟩, by rw [cnt_ints]; show (tl.getLastD bottom).length ≤ _; omega⟩
      simp [idx_end bottom hr0 (by rw [hl]; exact s2.1)]
theorem law_TopOf (ts : List GTile) (bottom : List Int) (rows : List (List Int)) (w0 : Wf.wf ts) (w1 : Wf.wf bottom) (w2 : Wf.wf rows) : F_laws_FnExactTopOf ts bottom rows = some true :=
  lawof_TopOf ts bottom rows w0 w1 w2 (ex_TopOf ts bottom rows)
end Go.Fn
