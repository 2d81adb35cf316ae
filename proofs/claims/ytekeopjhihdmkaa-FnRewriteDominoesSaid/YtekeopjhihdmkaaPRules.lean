/-
  Dominoes of rewriting rules: the plain law of RewritesToDominoes. No program in sight. No condition.
-/
import Derived.Test.YtekeopjhihdmkaaPPlain
namespace Go.Fn
open Go Go.Tc
def rewB (r : GRewrite) : Bool := wordB r.From && wordB r.To && decide (r.From.length ≠ 0)
def rewsB (rs : List GRewrite) : Bool := decide (1 ≤ rs.length) && decide (rs.length ≤ 60) && rs.all rewB
theorem spec_rews (rs : List GRewrite) (h : Sml rs) : F_spec_l10Is rs = some (rewsB rs) := by
  have h1 := h.1
  unfold F_spec_l10Is rewsB
  rw [dec_lt (x := (rs.length : Int)) (y := 1) rfl rfl, dec_lt (x := 60) (y := (rs.length : Int)) rfl rfl]
  by_cases l1 : rs.length < 1
  · rw [decide_eq_true l1, decide_eq_false (by omega : ¬ 1 ≤ rs.length)]; rfl
  by_cases l2 : 60 < rs.length
  · rw [decide_eq_false l1, decide_eq_true l2, decide_eq_false (by omega : ¬ rs.length ≤ 60), Bool.and_false]; rfl
  rw [decide_eq_false l1, decide_eq_false l2, decide_eq_true (by omega : rs.length ≤ 60), decide_eq_true (by omega : 1 ≤ rs.length)]
  simp only [cond_false, bnd_some_eq, Out.elim, Bool.true_and]
  rw [run_allp rs (by omega) rewB (.ret false) (.brk (rs.length : Int)) (fun i hi => by
    have hd := h.mem hi
    have e1 := hd.1.1
    have e2 := hd.2.1
    simp only [F_spec_l10Is_L1, Int.ofNat_lt, hi, decide_true, cond_true, idx_nat hi, bnd_some_eq, spec_word _ e1, spec_word _ e2, dec_zero]
    unfold rewB
    cases wordB rs[i].From
    · rfl
    cases wordB rs[i].To
    · rfl
    cases decide (rs[i].From.length ≠ 0) <;> rfl) (by simp [F_spec_l10Is_L1])]
  cases rs.all rewB <;> rfl
theorem two_words (a b : List Int) (ha : Sml a) (hb : Sml b) : F_impl_areWords [a, b] = some (wordB a && wordB b) := by
  rw [impl_areWords [a, b] ⟨by simp, by simp only [List.mem_cons, List.not_mem_nil, or_false]; exact fun x hx => hx.elim (fun e => e ▸ ha) (fun e => e ▸ hb)⟩]
  simp
theorem impl_rews (rs : List GRewrite) (h : Sml rs) : F_impl_ValidRewrites rs = some (rewsB rs) := by
  have h1 := h.1
  unfold F_impl_ValidRewrites F_impl_size_impl_Rewrite F_slices_ContainsFunc_Simpl_Rewrite_impl_Rewrite F_slices_IndexFunc_Simpl_Rewrite_impl_Rewrite rewsB
  simp only [bnd_some_eq, impl_in]
  rw [run_find rs (by omega) (fun x => !rewB x) (fun i hi => by
    have hd := h.mem hi
    simp only [F_slices_IndexFunc_Simpl_Rewrite_impl_Rewrite_L1, F_impl_ValidRewrites_1, Int.ofNat_lt, hi, decide_true, cond_true, idx_nat hi, bnd_some_eq, two_words _ _ hd.1 hd.2, dec_zero]
    unfold rewB
    cases wordB rs[i].From && wordB rs[i].To
    · rfl
    cases decide (rs[i].From.length ≠ 0) <;> rfl) (by simp [F_slices_IndexFunc_Simpl_Rewrite_impl_Rewrite_L1])]
  simp only [bnd_some_eq]
  rw [find_any, any_not]
  have : inB (rs.length : Int) 1 60 = (decide (1 ≤ rs.length) && decide (rs.length ≤ 60)) := by
    unfold inB
    rw [dec_le (x := 1) (y := (rs.length : Int)) rfl rfl, dec_le (x := (rs.length : Int)) (y := 60) rfl rfl]
  rw [this]
  cases decide (1 ≤ rs.length) && decide (rs.length ≤ 60) <;> rfl
theorem rewsB_len {rs : List GRewrite} (h : rewsB rs = true) : 1 ≤ rs.length ∧ rs.length ≤ 60 := by
  unfold rewsB at h
  simp only [Bool.and_eq_true, decide_eq_true_eq] at h
  exact h.1
theorem rewsB_mem {rs : List GRewrite} (h : rewsB rs = true) {r : GRewrite} (hr : r ∈ rs) : r.From.length ≤ 400 ∧ r.To.length ≤ 400 := by
  unfold rewsB at h
  simp only [Bool.and_eq_true, decide_eq_true_eq] at h
  have := List.all_eq_true.1 h.2 r hr
  unfold rewB wordB at this
  simp only [Bool.and_eq_true, decide_eq_true_eq] at this
  exact ⟨this.1.1.1, this.1.2.1⟩
theorem wordB_len {w : List Int} (h : wordB w = true) : w.length ≤ 400 := by
  unfold wordB at h
  simp only [Bool.and_eq_true, decide_eq_true_eq] at h
  exact h.1
def toD (r : GRewrite) : GDomino := ⟨r.From, r.To⟩
def letD (k : Nat) : GDomino := ⟨[(k : Int)], [(k : Int)]⟩
def headL (f : List Int) : List GDomino := [⟨[6], 6 :: (f ++ [6])⟩] ++ (List.range 6).map letD ++ [⟨[6], [6]⟩]
theorem headL_len (f : List Int) : (headL f).length = 8 := by simp [headL]
def rulesL (rs : List GRewrite) (f t : List Int) : List GDomino := headL f ++ rs.map toD ++ [⟨t ++ [6, 7], [7]⟩]
def smallB (xs : List Int) : Bool := xs.all fun x => inB x 0 5
def rulesP (rs : List GRewrite) (f t : List Int) : List GDomino × Int :=
  cond ((smallB f && smallB t) && rs.all fun r => leastB 5 (toD r)) (cond (domsB (rulesL rs f t)) (rulesL rs f t, 0) ([], 5)) ([], 2)
theorem rulesL_sml {rs : List GRewrite} {f t : List Int} (h : rewsB rs = true) (hf : f.length ≤ 400) (ht : t.length ≤ 400) : Sml (rulesL rs f t) := by
  have hl := rewsB_len h
  refine ⟨by simp only [rulesL, List.length_append, headL_len, List.length_map, List.length_singleton]; omega, fun d hd => ?_⟩
  have key : ∀ a b : List Int, a.length ≤ 1000 → b.length ≤ 1000 → Bdd.bd 1048576 (⟨a, b⟩ : GDomino) := fun a b ha hb =>
    ⟨⟨Nat.le_trans ha (by decide), fun _ _ => trivial⟩, ⟨Nat.le_trans hb (by decide), fun _ _ => trivial⟩⟩
  simp only [rulesL, headL, List.mem_append, List.mem_singleton, List.mem_map] at hd
  rcases hd with (((rfl | ⟨k, _, rfl⟩) | rfl) | ⟨r, hr, rfl⟩) | rfl
  · exact key _ _ (by simp) (by simp; omega)
  · exact key _ _ (by simp) (by simp)
  · exact key _ _ (by simp) (by simp)
  · have := rewsB_mem h hr
    exact key _ _ (by omega) (by omega)
  · exact key _ _ (by simp; omega) (by simp)
/-- The loop over the letters. -/
theorem run_letters {R : Type} {body : List GDomino × Int → Option ((List GDomino × Int) ⊕ Out (List GDomino × Int) R)} (a : List GDomino) (ha : a.length ≤ 10)
    (h1 : ∀ (i : Nat) (b : List GDomino), i < 6 → b.length ≤ 20 → body (b, (i : Int)) = some (.inl (b ++ [letD i], w64 ((i : Int) + 1))))
    (h2 : ∀ b, body (b, 6) = some (.inr (.brk (b, 6)))) : run body (a, 0) = some (.brk (a ++ (List.range 6).map letD, 6)) := by
  have := (run_rowf (body := body) (List.range 6) (by simp) (fun (a : List GDomino) i => (a, i)) (fun a k => a ++ [letD k]) (fun i b => b.length ≤ 10 + i) (by
    intro i hi b k
    simp only [List.length_range] at hi
    simp only [List.getElem_range]
    exact ⟨h1 i b hi (by omega), by simp; omega⟩) a (by omega)).1
  rw [foldl_snoc, List.length_range] at this
  rw [this]
  exact run_done (h2 _)
theorem spec_own (xs : List Int) (h : xs.length ≤ 1048576) : F_spec_l00Own xs = some xs := by
  unfold F_spec_l00Own
  rw [app_ok (by simp; omega)]
  rfl
theorem impl_clone (xs : List Int) (h : xs.length ≤ 1048576) : F_slices_Clone_Sint64_int64 xs = some xs := by
  unfold F_slices_Clone_Sint64_int64
  rw [app_ok (by simp; omega)]
  rfl
theorem spec_rules (rs : List GRewrite) (f t : List Int) (h : rewsB rs = true) (hs : Sml rs) (hf : f.length ≤ 400) (ht : t.length ≤ 400) : F_spec_l32Rules rs f t = some (rulesP rs f t) := by
  have hl := rewsB_len h
  unfold F_spec_l32Rules
  rw [app_ok (by simp; omega), bnd_some_eq, app_ok (by simp; omega), bnd_some_eq]
  rw [run_letters (body := F_spec_l32Rules_L1) _ (by simp) (fun i b hi hb => by
    simp only [F_spec_l32Rules_L1]
    rw [decide_eq_true (by omega : (i : Int) ≤ 5), cond_true, app_ok (by simp; omega), bnd_some_eq]
    rfl) (fun b => by simp [F_spec_l32Rules_L1])]
  simp only [bnd_some_eq, Out.elim]
  rw [app_ok (by simp), bnd_some_eq]
  have eh : [(⟨[6], [6] ++ f ++ [6]⟩ : GDomino)] ++ (List.range 6).map letD ++ [⟨[6], [6]⟩] = headL f := rfl
  rw [eh]
  have r := (run_rowf (body := F_spec_l32Rules_L2 rs) rs (by omega) (fun (a : List GDomino) i => (a, i)) (fun a r => a ++ [toD r]) (fun i b => b.length ≤ 8 + i) (by
    intro i hi b k
    have hm := rewsB_mem h (List.getElem_mem hi)
    refine ⟨?_, by simp; omega⟩
    simp only [F_spec_l32Rules_L2, Int.ofNat_lt, hi, decide_true, cond_true, idx_nat hi, bnd_some_eq]
    rw [spec_own _ (by omega), bnd_some_eq, spec_own _ (by omega), bnd_some_eq, app_ok (by simp; omega), bnd_some_eq]
    rfl) (headL f) (by rw [headL_len]; omega)).1
  rw [foldl_snoc] at r
  rw [r, run_done (x := .brk (headL f ++ rs.map toD, (rs.length : Int))) (by simp [F_spec_l32Rules_L2])]
  simp only [bnd_some_eq, Out.elim]
  have sl : slc (headL f ++ rs.map toD) 8 (((headL f ++ rs.map toD).length : Nat) : Int) = some (rs.map toD) := by
    have := slc_ok (xs := headL f ++ rs.map toD) (lo := 8) (hi := (headL f ++ rs.map toD).length) (by rw [List.length_append, headL_len]; omega) (Nat.le_refl _)
    rw [List.take_length, List.drop_append_of_le_length (by rw [headL_len]; omega), List.drop_eq_nil_of_le (by rw [headL_len]; omega)] at this
    exact this
  have hsm : Sml (rs.map toD) := ⟨by rw [List.length_map]; exact hs.1, fun d hd => by
    obtain ⟨r, hr, rfl⟩ := List.mem_map.1 hd
    exact hs.2 r hr⟩
  rw [sl, bnd_some_eq, spec_least _ _ hsm, spec_row f _ _ (by omega), spec_row t _ _ (by omega), List.all_map]
  unfold rulesP smallB
  have ec : (rs.all (leastB 5 ∘ toD)) = rs.all fun r => leastB 5 (toD r) := rfl
  rw [ec]
  cases rs.all fun r => leastB 5 (toD r)
  · simp only [Bool.and_false]; rfl
  cases f.all fun x => inB x 0 5
  · rfl
  cases t.all fun x => inB x 0 5
  · rfl
  simp only [Bool.not_true, cond_false, bnd_some_eq, Out.elim, Bool.and_self, cond_true]
  rw [spec_own t (by omega), bnd_some_eq, app_ok (by simp; omega), bnd_some_eq, app_ok (by rw [List.length_append, headL_len, List.length_map]; simp; omega), bnd_some_eq]
  have ed : headL f ++ rs.map toD ++ [⟨t ++ [6, 7], [7]⟩] = rulesL rs f t := rfl
  rw [ed, spec_doms _ (rulesL_sml h hf ht), bnd_some_eq]
  cases domsB (rulesL rs f t) <;> rfl
theorem foldl_fine (q : GRewrite → Bool) : ∀ (rs : List GRewrite) (a : List GDomino) (b : Bool), rs.foldl (fun s r => (s.1 ++ [toD r], s.2 && q r)) (a, b) = (a ++ rs.map toD, b && rs.all q)
  | [], a, b => by simp
  | r :: rs, a, b => by rw [List.foldl_cons, foldl_fine q rs]; simp [Bool.and_assoc]
theorem impl_rules (rs : List GRewrite) (f t : List Int) (h : rewsB rs = true) (hs : Sml rs) (hf : f.length ≤ 400) (ht : t.length ≤ 400) : F_impl_rewritesToDominoes rs f t = some (rulesP rs f t) := by
  have hl := rewsB_len h
  unfold F_impl_rewritesToDominoes
  rw [impl_joined _ (by simp) (by simp; omega), bnd_some_eq]
  rw [run_letters (body := F_impl_rewritesToDominoes_L1) _ (by simp) (fun i b hi hb => by
    simp only [F_impl_rewritesToDominoes_L1]
    rw [decide_eq_true (by omega : (i : Int) < 6), cond_true, app_ok (by simp; omega), bnd_some_eq]
    rfl) (fun b => by simp [F_impl_rewritesToDominoes_L1])]
  simp only [bnd_some_eq, Out.elim]
  rw [impl_clone [6] (by simp), bnd_some_eq, bnd_some_eq, app_ok (by simp), bnd_some_eq, impl_joined [f, t] (by simp) (by simp; omega), bnd_some_eq, impl_allWithin _ _ _ (by simp; omega), bnd_some_eq]
  have eh : [(⟨[6], [[6], f, [6]].flatten⟩ : GDomino)] ++ (List.range 6).map letD ++ [⟨[6], [6]⟩] = headL f := by simp [headL]
  rw [eh]
  have ea : ([f, t].flatten.all fun x => inB x 0 5) = (smallB f && smallB t) := by simp [smallB]
  rw [ea]
  have r := (run_rowf (body := F_impl_rewritesToDominoes_L2 rs) rs (by omega) (fun (a : List GDomino × Bool) i => (a.1, a.2, i)) (fun a r => (a.1 ++ [toD r], a.2 && leastB 5 (toD r))) (fun i b => b.1.length ≤ 8 + i) (by
    rintro i hi ⟨b, c⟩ k
    have k : b.length ≤ 8 + i := k
    have hm := rewsB_mem h (List.getElem_mem hi)
    refine ⟨?_, by simp; omega⟩
    simp only [F_impl_rewritesToDominoes_L2, Int.ofNat_lt, hi, decide_true, cond_true, idx_nat hi, bnd_some_eq]
    rw [impl_joined [rs[i].From, rs[i].To] (by simp) (by simp; omega), bnd_some_eq, impl_allWithin _ _ _ (by simp; omega), bnd_some_eq, impl_clone rs[i].From (by omega), bnd_some_eq, impl_clone rs[i].To (by omega), bnd_some_eq, app_ok (by simp; omega)]
    have eb : ([rs[i].From, rs[i].To].flatten.all fun x => inB x 0 5) = leastB 5 (toD rs[i]) := by simp [leastB, toD]
    rw [eb]
    simp only [bnd_some_eq]
    rw [app_ok (by simp; omega)]
    cases c <;> rfl) (headL f, smallB f && smallB t) (by show (headL f).length ≤ _; rw [headL_len]; omega)).1
  rw [foldl_fine] at r
  rw [r, run_done (x := .brk (headL f ++ rs.map toD, ((smallB f && smallB t) && rs.all fun r => leastB 5 (toD r)), (rs.length : Int))) (by simp [F_impl_rewritesToDominoes_L2])]
  simp only [bnd_some_eq, Out.elim]
  rw [impl_joined [t, [6, 7]] (by simp) (by simp; omega), bnd_some_eq, app_ok (by rw [List.length_append, headL_len, List.length_map]; simp; omega), bnd_some_eq]
  have ed : headL f ++ rs.map toD ++ [⟨[t, [6, 7]].flatten, [7]⟩] = rulesL rs f t := by simp [rulesL]
  rw [ed, impl_doms _ (rulesL_sml h hf ht)]
  unfold rulesP
  cases (smallB f && smallB t) && rs.all fun r => leastB 5 (toD r)
  · rfl
  cases domsB (rulesL rs f t) <;> rfl
theorem rulesP_sml {rs : List GRewrite} {f t : List Int} (h : rewsB rs = true) (hf : f.length ≤ 400) (ht : t.length ≤ 400) : Sml (rulesP rs f t).1 := by
  unfold rulesP
  cases (smallB f && smallB t) && rs.all fun r => leastB 5 (toD r)
  · exact nil_sml
  cases domsB (rulesL rs f t)
  · exact nil_sml
  · exact rulesL_sml h hf ht
end Go.Fn
