/-
  NormalFormsOf. No program in sight. No condition.
-/
import Derived.Test.YtneglngdbcefgaaPRch
import Derived.Test.YtneglngdbcefgaaPMoD
namespace Go.Fn
open Go Go.Tc
/-- No rule's first part occurs. -/
def normB (rs : List GRewrite) (w : List Int) : Bool := rs.all fun r => decide ((posn w r.From).length = 0)
theorem impl_norm {rs : List GRewrite} {w : List Int} (hr : rs.length ≤ 1048576) (hw : w.length ≤ 1000) : F_impl_isNormalWord rs w = some (normB rs w) := by
  unfold F_impl_isNormalWord F_slices_ContainsFunc_Simpl_Rewrite_impl_Rewrite F_slices_IndexFunc_Simpl_Rewrite_impl_Rewrite
  rw [run_find rs (by omega) (fun r => decide (0 < (posn w r.From).length)) (fun i hi => by
    simp only [F_slices_IndexFunc_Simpl_Rewrite_impl_Rewrite_L1, F_impl_isNormalWord_1, Int.ofNat_lt, hi, decide_true, cond_true, idx_nat hi, bnd_some_eq, impl_occ w _ hw]
    rw [List.length_map, show decide ((0 : Int) < ((posn w rs[i].From).length : Int)) = decide (0 < (posn w rs[i].From).length) by rw [decide_eq_decide]; omega]
    cases decide (0 < (posn w rs[i].From).length) <;> rfl) (by simp [F_slices_IndexFunc_Simpl_Rewrite_impl_Rewrite_L1])]
  simp only [bnd_some_eq]
  rw [find_any]
  congr 1
  unfold normB
  rw [List.not_any_eq_all_not]
  congr 1
  funext r
  by_cases h : (posn w r.From).length = 0
  · rw [decide_eq_true h, decide_eq_false (by omega)]
    rfl
  · rw [decide_eq_false h, decide_eq_true (by omega)]
    rfl
theorem spec_find_run (w f : List Int) (hw : w.length ≤ 1000) (hf : f.length ≤ 1000) : ∀ k n : Nat, n + k = w.length + 1 →
    ∃ o : Out Int Int, run (F_spec_l03Find_L1 w f) (n : Int) = some o ∧ (match o with
      | .ret v => 0 ≤ v ∧ ∃ a, n ≤ a ∧ a ∈ posn w f
      | .brk _ => ∀ a, n ≤ a → a ∉ posn w f) := by
  intro k
  induction k with
  | zero =>
    intro n hn
    refine ⟨.brk (n : Int), run_done ?_, fun a ha hm => ?_⟩
    · simp only [F_spec_l03Find_L1]
      rw [w64_in (by omega) (by omega), decide_eq_false (by omega), cond_false]
    · have := posn_mem hm
      omega
  | succ k ih =>
    intro n hn
    by_cases h : n + f.length ≤ w.length
    · by_cases hm : (w.drop n).take f.length = f
      · refine ⟨.ret (n : Int), run_done ?_, by omega, n, Nat.le_refl _, ?_⟩
        · simp only [F_spec_l03Find_L1]
          rw [w64_in (by omega) (by omega), decide_eq_true (by omega), cond_true, spec_at w f n (by omega) (by omega) (by omega), bnd_some_eq, decide_eq_true hm, cond_true]
        · unfold posn
          rw [List.mem_filter, List.mem_range]
          exact ⟨by omega, decide_eq_true hm⟩
      · have hb : F_spec_l03Find_L1 w f (n : Int) = some (.inl ((n + 1 : Nat) : Int)) := by
          simp only [F_spec_l03Find_L1]
          rw [w64_in (by omega) (by omega), decide_eq_true (by omega), cond_true, spec_at w f n (by omega) (by omega) (by omega), bnd_some_eq, decide_eq_false hm, cond_false, w64_nat1 (by omega)]
        rw [run_next hb]
        obtain ⟨o, ho, hq⟩ := ih (n + 1) (by omega)
        refine ⟨o, ho, ?_⟩
        cases o with
        | ret v =>
          obtain ⟨h1, a, h2, h3⟩ := hq
          exact ⟨h1, a, by omega, h3⟩
        | brk v =>
          intro a ha hmem
          by_cases he : a = n
          · subst he
            unfold posn at hmem
            rw [List.mem_filter, decide_eq_true_eq] at hmem
            exact hm hmem.2
          · exact hq a (by omega) hmem
    · refine ⟨.brk (n : Int), run_done ?_, fun a ha hm => ?_⟩
      · simp only [F_spec_l03Find_L1]
        rw [w64_in (by omega) (by omega), decide_eq_false (by omega), cond_false]
      · have := posn_mem hm
        omega
theorem spec_find (w f : List Int) (hw : w.length ≤ 1000) (hf : f.length ≤ 1000) : ∃ v, F_spec_l03Find w f 0 = some v ∧ decide (0 ≤ v) = !decide ((posn w f).length = 0) := by
  obtain ⟨o, ho, hq⟩ := spec_find_run w f hw hf (w.length + 1) 0 (by omega)
  unfold F_spec_l03Find
  rw [show ((0 : Nat) : Int) = 0 from rfl] at ho
  rw [ho, bnd_some_eq]
  cases o with
  | ret v =>
    obtain ⟨h1, a, _, h3⟩ := hq
    refine ⟨v, rfl, ?_⟩
    have : (posn w f).length ≠ 0 := fun e => by
      rw [List.eq_nil_of_length_eq_zero e] at h3
      simp at h3
    rw [decide_eq_true h1, decide_eq_false this]
    rfl
  | brk v =>
    refine ⟨-1, rfl, ?_⟩
    have : (posn w f).length = 0 := by
      cases hp : posn w f with
      | nil => rfl
      | cons a l => exact absurd (by rw [hp]; exact List.mem_cons_self ..) (hq a (Nat.zero_le _))
    rw [decide_eq_true this]
    rfl
theorem spec_norm {rs : List GRewrite} {w : List Int} (hr : rewsB rs = true) (hw : w.length ≤ 1000) : F_spec_l10Normal rs w = some (normB rs w) := by
  have hl := (rewsB_len hr).2
  unfold F_spec_l10Normal
  rw [run_allp rs (by omega) (fun r => decide ((posn w r.From).length = 0)) (.ret false) (.brk (rs.length : Int)) (fun i hi => by
    have hf := (rewsB_mem hr (List.getElem_mem hi)).1
    obtain ⟨v, e, hv⟩ := spec_find w rs[i].From hw (by omega)
    simp only [F_spec_l10Normal_L1, Int.ofNat_lt, hi, decide_true, cond_true, idx_nat hi, bnd_some_eq]
    rw [e, bnd_some_eq, hv]
    cases decide ((posn w rs[i].From).length = 0) <;> rfl) (by simp [F_spec_l10Normal_L1])]
  unfold normB
  cases rs.all fun r => decide ((posn w r.From).length = 0) <;> rfl
theorem del_filter {α : Type} {φ : α → Option Bool} {p : α → Bool} : ∀ xs : List α, (∀ x ∈ xs, φ x = some (!p x)) → del φ xs = some (xs.filter p)
  | [], _ => rfl
  | x :: l, h => by
    unfold del
    rw [h x (List.mem_cons_self ..), bnd_some_eq, del_filter l (fun y hy => h y (List.mem_cons_of_mem _ hy)), bnd_some_eq, List.filter_cons]
    cases p x <;> rfl
theorem delG_filter {α : Type} {φ : α → Option Bool} {p : α → Bool} {xs : List α} (hl : xs.length ≤ 1000) (h : ∀ x ∈ xs, φ x = some (!p x)) : delG xs φ = some (xs.filter p) := by
  unfold delG
  rw [if_pos (by omega), del_filter xs h]
theorem nf_ex2 (rs : List GRewrite) (f : List Int) (b : Int) (s0 : Sml rs) (s1 : Sml f) :
    ∃ w : (List (List Int)) × Bool × Int, F_spec_NormalFormsOf rs f b = some w ∧ F_impl_NormalFormsOf rs f b = some w ∧ (rewsB rs = true → wordB f = true → inB b 1 20000 = true → w = ((wF (sch rs f b).1).filter (normB rs), (sch rs f b).2, 0)) ∧ Med w.1 ∧ Cnt.cnt w.1 ≤ 1152921504606846976 := by
  have nil : ∀ k : Bool × Int, Med ((([] : List (List Int)), k) : List (List Int) × Bool × Int).1 ∧ Cnt.cnt ((([] : List (List Int)), k) : List (List Int) × Bool × Int).1 ≤ 1152921504606846976 := fun k => rows_fit (by simp) (by simp)
  unfold F_spec_NormalFormsOf F_impl_NormalFormsOf F_impl_ReachWords F_impl_searchCode F_spec_l05Budget F_impl_budgetOk
  rw [spec_rews rs s0, spec_word f s1.1, impl_rews rs s0, impl_areWords [f] ⟨by simp, by simp only [List.mem_cons, List.not_mem_nil, or_false]; exact fun x hx => hx ▸ s1⟩, spec_in, impl_in]
  simp only [bnd_some_eq, List.all_cons, List.all_nil, Bool.and_true]
  cases hr : rewsB rs
  · exact ⟨_, rfl, rfl, (fun h => by cases h), nil _⟩
  cases hf : wordB f
  · exact ⟨_, rfl, rfl, (fun _ h => by cases h), nil _⟩
  cases hb : inB b 1 20000
  · exact ⟨_, rfl, rfl, (fun _ _ h => by cases h), nil _⟩
  have k0 : decide ((0 : Int) ≠ 0) = false := rfl
  simp only [Bool.not_true, cond_false, bnd_some_eq, Out.elim, k0]
  obtain ⟨n1, _, e1⟩ := impl_searched (b := b) hr hf
  obtain ⟨_, pG, pl, _⟩ := sch_props (b := b) hr hf
  have hwl : (wF (sch rs f b).1).length ≤ 300 := by simp [wF]; omega
  have hwm : ∀ x ∈ wF (sch rs f b).1, x.length ≤ 400 := by
    intro x hx
    obtain ⟨g, hg, rfl⟩ := List.mem_map.1 hx
    exact wordB_len (pG g hg)
  have hrl := (rewsB_len hr).2
  have hrun := impl_wordsOf (sch rs f b).1 n1 (sch rs f b).2 pl (sch rs f b).1.length 0 (by omega)
  rw [List.take_zero, show ((0 : Nat) : Int) = 0 from rfl] at hrun
  rw [spec_l10find hr hf, e1]
  simp only [bnd_some_eq]
  rw [hrun]
  simp only [bnd_some_eq, Out.elim, k0, cond_false]
  generalize wF (sch rs f b).1 = ws at hwl hwm
  rw [delG_filter (p := normB rs) (by omega) (fun x hx => by
    unfold F_impl_NormalFormsOf_1
    rw [impl_norm (by omega) (by have := hwm x hx; omega), bnd_some_eq])]
  have loop := (run_rowf (body := F_spec_NormalFormsOf_L1 rs (ws, bF (sch rs f b).1, sF (sch rs f b).1, (sch rs f b).2)) ws (by omega) (fun (a : List (List Int)) i => (a, i)) (fun a w => cond (normB rs w) (a ++ [w]) a) (fun i a => a.length ≤ i) (fun i hi a ha => by
    refine ⟨?_, ?_⟩
    · simp only [F_spec_NormalFormsOf_L1, Int.ofNat_lt, hi, decide_true, cond_true, idx_nat hi, bnd_some_eq]
      rw [spec_norm hr (by have := hwm _ (List.getElem_mem hi); omega), bnd_some_eq]
      cases normB rs ws[i]
      · rfl
      · rw [cond_true, app_ok (by simp; omega), bnd_some_eq]
        rfl
    · cases normB rs ws[i]
      · simp only [cond_false]; omega
      · simp only [cond_true, List.length_append, List.length_singleton]; omega) [] (by simp)).1
  have efold : ∀ (xs : List (List Int)) (a : List (List Int)), xs.foldl (fun a w => cond (normB rs w) (a ++ [w]) a) a = a ++ xs.filter (normB rs) := by
    intro xs
    induction xs with
    | nil => intro a; simp
    | cons x xs ih =>
      intro a
      rw [List.foldl_cons, ih, List.filter_cons]
      cases normB rs x <;> simp
  rw [efold, List.nil_append] at loop
  rw [loop, run_done (x := Out.brk (ws.filter (normB rs), (ws.length : Int))) (by simp [F_spec_NormalFormsOf_L1])]
  refine ⟨(ws.filter (normB rs), (sch rs f b).2, 0), rfl, rfl, (fun _ _ _ => rfl), rows_fit ?_ fun x hx => ?_⟩
  · have := List.length_filter_le (normB rs) ws
    show (ws.filter (normB rs)).length ≤ _
    omega
  · have := hwm x ((List.mem_filter.1 hx).1)
    omega
theorem ex_NormalFormsOf (rs : List GRewrite) (f : List Int) (b : Int) (s0 : Sml rs) (s1 : Sml f) :
    ∃ w : (List (List Int)) × Bool × Int, F_spec_NormalFormsOf rs f b = some w ∧ F_impl_NormalFormsOf rs f b = some w ∧ Med w.1 ∧ Cnt.cnt w.1 ≤ 1152921504606846976 := by
  obtain ⟨w, h1, h2, _, h3⟩ := nf_ex2 rs f b s0 s1
  exact ⟨w, h1, h2, h3⟩
theorem law_NormalFormsOf (rs : List GRewrite) (f : List Int) (b : Int) (w0 : Wf.wf rs) (w1 : Wf.wf f) (w2 : Wf.wf b) : F_laws_FnExactNormalFormsOf rs f b = some true :=
  lawof_NormalFormsOf rs f b w0 w1 w2 (ex_NormalFormsOf rs f b)
end Go.Fn
