/-
  Derivations; the plain law of MatchOfDerivation. No program in sight. No condition.
-/
import Derived.Test.YtneglngdbcefgaaPDeriv
namespace Go.Fn
open Go Go.Tc
theorem inB_iff' {x lo hi : Int} : inB x lo hi = true ↔ lo ≤ x ∧ x ≤ hi := by
  unfold inB
  simp only [Bool.and_eq_true, decide_eq_true_eq]
theorem slc0' {α : Type} {xs : List α} {hi : Nat} (h : hi ≤ xs.length) : slc xs 0 (hi : Int) = some (xs.take hi) := by
  have := slc_ok (xs := xs) (lo := 0) (hi := hi) (Nat.zero_le _) h
  rw [List.drop_zero] at this
  exact this
def zR : GRewrite := ⟨[], []⟩
def putW (w t : List Int) (a n : Nat) : List Int := w.take a ++ t ++ w.drop (a + n)
def applyW (rs : List GRewrite) (w : List Int) (r a : Int) : List Int × Int :=
  cond (inB r 0 ((rs.length : Int) - 1) && inB a 0 (w.length : Int))
    (cond (decide ((w.drop a.toNat).take (rs.getD r.toNat zR).From.length = (rs.getD r.toNat zR).From))
      (cond (decide (400 < (putW w (rs.getD r.toNat zR).To a.toNat (rs.getD r.toNat zR).From.length).length)) ([], 5) (putW w (rs.getD r.toNat zR).To a.toNat (rs.getD r.toNat zR).From.length, 0)) ([], 3)) ([], 2)
theorem rget_len {rs : List GRewrite} (h : rewsB rs = true) (k : Nat) : (rs.getD k zR).From.length ≤ 400 ∧ (rs.getD k zR).To.length ≤ 400 := by
  rw [List.getD_eq_getElem?_getD]
  cases e : rs[k]? with
  | none => exact ⟨Nat.zero_le _, Nat.zero_le _⟩
  | some d => exact rewsB_mem h (List.mem_of_getElem? e)
theorem take_eq_len {w f : List Int} {a : Nat} (h : (w.drop a).take f.length = f) (ha : a ≤ w.length) : a + f.length ≤ w.length := by
  have := congrArg List.length h
  simp only [List.length_take, List.length_drop] at this
  omega
theorem putW_len {w t : List Int} {a n : Nat} (h : a + n ≤ w.length) : (putW w t a n).length = w.length - n + t.length := by
  simp [putW]; omega
theorem impl_begins (z f : List Int) (hz : z.length ≤ 1048576) : F_impl_begins z f = some (decide (z.take f.length = f)) := by
  unfold F_impl_begins
  by_cases h : f.length ≤ z.length
  · rw [decide_eq_true (by omega), cond_true, slc0' h, bnd_some_eq, impl_equal _ _ (by simp; omega)]
    rfl
  · rw [decide_eq_false (by omega), cond_false, decide_eq_false]
    intro e
    have := congrArg List.length e
    simp only [List.length_take] at this
    omega
theorem spec_at (w f : List Int) (a : Nat) (hw : w.length ≤ 1048576) (ha : a ≤ w.length) (hf : f.length ≤ 1048576) : F_spec_l03At w (a : Int) f = some (decide ((w.drop a).take f.length = f)) := by
  unfold F_spec_l03At
  rw [w64_add (by omega)]
  by_cases h : a + f.length ≤ w.length
  · rw [decide_eq_true (by omega), cond_true, slc_ok (by omega) h, bnd_some_eq, spec_same _ _ (by simp; omega)]
    rw [List.drop_take, Nat.add_sub_cancel_left]
    rfl
  · rw [decide_eq_false (by omega), cond_false, decide_eq_false]
    intro e
    exact h (take_eq_len e ha)
theorem spec_put (w t : List Int) (a n : Nat) (hw : w.length ≤ 1048576) (ht : t.length ≤ 1048576) (h : a + n ≤ w.length) : F_spec_l03Put w (a : Int) (n : Int) t = some (putW w t a n) := by
  unfold F_spec_l03Put
  rw [slc0' (by omega), bnd_some_eq, spec_own _ (by simp; omega), bnd_some_eq, app_ok (by simp; omega), bnd_some_eq, w64_add (by omega), slc_from h, bnd_some_eq, app_ok (by simp; omega), bnd_some_eq]
  rfl
theorem impl_put (w t : List Int) (a n : Nat) (hw : w.length ≤ 400000) (ht : t.length ≤ 400) (h : a + n ≤ w.length) : F_impl_replaced w (a : Int) (n : Int) t = some (putW w t a n) := by
  unfold F_impl_replaced
  rw [slc0' (by omega), bnd_some_eq, w64_add (by omega), slc_from h, bnd_some_eq, impl_joined _ (by simp) (by simp; omega), bnd_some_eq]
  simp [putW]
theorem applyW_ok {rs : List GRewrite} {w : List Int} {r a : Int} (h : (applyW rs w r a).2 = 0) :
    0 ≤ r ∧ r < rs.length ∧ 0 ≤ a ∧ a.toNat + (rs.getD r.toNat zR).From.length ≤ w.length ∧ applyW rs w r a = (putW w (rs.getD r.toNat zR).To a.toNat (rs.getD r.toNat zR).From.length, 0) ∧ (putW w (rs.getD r.toNat zR).To a.toNat (rs.getD r.toNat zR).From.length).length ≤ 400 := by
  unfold applyW at h ⊢
  cases h1 : inB r 0 ((rs.length : Int) - 1)
  · rw [h1] at h; simp at h
  cases h2 : inB a 0 (w.length : Int)
  · rw [h1, h2] at h; simp at h
  rw [h1, h2] at h
  have h1' := inB_iff'.1 h1
  have h2' := inB_iff'.1 h2
  by_cases hb : (w.drop a.toNat).take (rs.getD r.toNat zR).From.length = (rs.getD r.toNat zR).From
  · have hn := take_eq_len hb (by omega)
    rw [decide_eq_true hb] at h ⊢
    by_cases hc : 400 < (putW w (rs.getD r.toNat zR).To a.toNat (rs.getD r.toNat zR).From.length).length
    · rw [decide_eq_true hc] at h; simp at h
    · rw [decide_eq_false hc]
      exact ⟨by omega, by omega, by omega, hn, rfl, by omega⟩
  · rw [decide_eq_false hb] at h; simp at h
theorem applyW_word {rs : List GRewrite} {w : List Int} {r a : Int} (hr : rewsB rs = true) (hw : wordB w = true) (h : (applyW rs w r a).2 = 0) : wordB (applyW rs w r a).1 = true := by
  obtain ⟨h1, h2, h3, h4, h5, h6⟩ := applyW_ok h
  rw [h5]
  unfold wordB at hw ⊢
  simp only [Bool.and_eq_true, decide_eq_true_eq] at hw ⊢
  refine ⟨h6, List.all_eq_true.2 fun x hx => ?_⟩
  have hT : ∀ y ∈ (rs.getD r.toNat zR).To, inB y 0 9 = true := by
    intro y hy
    have hm : rs.getD r.toNat zR ∈ rs := by
      rw [List.getD_eq_getElem?_getD, List.getElem?_eq_getElem (by omega)]
      exact List.getElem_mem _
    unfold rewsB at hr
    simp only [Bool.and_eq_true] at hr
    have := List.all_eq_true.1 hr.2 _ hm
    unfold rewB wordB at this
    simp only [Bool.and_eq_true] at this
    exact List.all_eq_true.1 this.1.2.2 y hy
  simp only [putW, List.mem_append] at hx
  rcases hx with (hx | hx) | hx
  · exact List.all_eq_true.1 hw.2 x (List.mem_of_mem_take hx)
  · exact hT x hx
  · exact List.all_eq_true.1 hw.2 x (List.mem_of_mem_drop hx)
def derW (rs : List GRewrite) : List (List Int) → List Int → List Int × Int
  | [], w => (w, 0)
  | s :: ss, w => cond (decide (s.length ≠ 2)) ([], 7) (cond (decide ((applyW rs w (s.getD 0 0) (s.getD 1 0)).2 ≠ 0)) ([], 7) (derW rs ss (applyW rs w (s.getD 0 0) (s.getD 1 0)).1))
theorem derW_cons {rs : List GRewrite} {s : List Int} {ss : List (List Int)} {w : List Int} (h : (derW rs (s :: ss) w).2 = 0) :
    s.length = 2 ∧ (applyW rs w (s.getD 0 0) (s.getD 1 0)).2 = 0 ∧ (derW rs ss (applyW rs w (s.getD 0 0) (s.getD 1 0)).1).2 = 0 := by
  unfold derW at h
  by_cases h1 : s.length ≠ 2
  · rw [decide_eq_true h1] at h; simp at h
  by_cases h2 : (applyW rs w (s.getD 0 0) (s.getD 1 0)).2 ≠ 0
  · rw [decide_eq_false h1, decide_eq_true h2] at h; simp at h
  rw [decide_eq_false h1, decide_eq_false h2] at h
  exact ⟨Classical.not_not.1 h1, Classical.not_not.1 h2, h⟩
theorem derW_len {rs : List GRewrite} : ∀ (ss : List (List Int)) (w : List Int), w.length ≤ 400 → (derW rs ss w).1.length ≤ 400 := by
  intro ss
  induction ss with
  | nil => intro w h; exact h
  | cons s ss ih =>
    intro w h
    unfold derW
    cases decide (s.length ≠ 2)
    · by_cases e2 : (applyW rs w (s.getD 0 0) (s.getD 1 0)).2 ≠ 0
      · rw [decide_eq_true e2]; exact Nat.zero_le _
      · rw [decide_eq_false e2]
        obtain ⟨_, _, _, _, q5, q6⟩ := applyW_ok (Classical.not_not.1 e2)
        exact ih _ (by rw [q5]; exact q6)
    · exact Nat.zero_le _
theorem dec_ne2 (n : Nat) : decide ((n : Int) ≠ 2) = decide (n ≠ 2) := by rw [decide_eq_decide]; omega
theorem two_get {s : List Int} (h : s.length = 2) : idx s 0 = some (s.getD 0 0) ∧ idx s 1 = some (s.getD 1 0) := by
  refine ⟨?_, ?_⟩
  · rw [idx_getD 0 (by omega) (by omega)]; rfl
  · rw [idx_getD 0 (by omega) (by omega)]; rfl
theorem derived_run {body : List Int × Int → Option ((List Int × Int) ⊕ Out (List Int × Int) (List Int × Int))} (rs : List GRewrite) (ss : List (List Int)) (hr : rewsB rs = true) (hn : ss.length ≤ 100)
    (h1 : ∀ (w : List Int) (i : Nat) (hi : i < ss.length), wordB w = true → body (w, (i : Int)) = cond (decide (ss[i].length ≠ 2)) (some (.inr (.ret ([], 7)))) (cond (decide ((applyW rs w (ss[i].getD 0 0) (ss[i].getD 1 0)).2 ≠ 0)) (some (.inr (.ret ([], 7)))) (some (.inl ((applyW rs w (ss[i].getD 0 0) (ss[i].getD 1 0)).1, w64 ((i : Int) + 1))))))
    (h2 : ∀ w, body (w, (ss.length : Int)) = some (.inr (.brk (w, (ss.length : Int))))) (w : List Int) (hw : wordB w = true) :
    bnd (run body (w, 0)) (Out.elim (fun (s13 : (List Int) × Int) => some (s13.1, 0)) (fun (r : (List Int) × Int) => some r)) = some (derW rs ss w) := by
  have key : ∀ k i w, i + k = ss.length → wordB w = true → bnd (run body (w, (i : Int))) (Out.elim (fun (s13 : (List Int) × Int) => some (s13.1, 0)) (fun (r : (List Int) × Int) => some r)) = some (derW rs (ss.drop i) w) := by
    intro k
    induction k with
    | zero =>
      intro i w hi _
      obtain rfl : i = ss.length := by omega
      rw [run_done (h2 w), List.drop_length]
      rfl
    | succ k ih =>
      intro i w hi hw
      have hlt : i < ss.length := by omega
      have hb := h1 w i hlt hw
      rw [List.drop_eq_getElem_cons hlt]
      unfold derW
      by_cases e1 : ss[i].length ≠ 2
      · rw [decide_eq_true e1] at hb ⊢
        rw [run_done hb]; rfl
      by_cases e2 : (applyW rs w (ss[i].getD 0 0) (ss[i].getD 1 0)).2 ≠ 0
      · rw [decide_eq_false e1, decide_eq_true e2] at hb ⊢
        rw [run_done hb]; rfl
      rw [decide_eq_false e1, decide_eq_false e2] at hb ⊢
      rw [run_next hb, w64_nat1 (by omega)]
      exact ih (i + 1) _ (by omega) (applyW_word hr hw (Classical.not_not.1 e2))
  have := key ss.length 0 w (by omega) hw
  rwa [List.drop_zero, show ((0 : Nat) : Int) = 0 from rfl] at this
def derP (rs : List GRewrite) (ss : List (List Int)) (w : List Int) : List Int × Int := cond (decide (100 < ss.length)) ([], 2) (derW rs ss w)
theorem dec_100 (n : Nat) : decide ((100 : Int) < (n : Int)) = decide (100 < n) := by rw [decide_eq_decide]; omega
def plus1 (xs : List Int) : List Int := xs.map fun x => w64 (x + 1)
def mstep (rs : List GRewrite) (a : List Int × List Int) (s : List Int) : List Int × List Int :=
  (a.1 ++ plus1 (a.2.take (s.getD 1 0).toNat) ++ [w64 (8 + s.getD 0 0)] ++ plus1 (a.2.drop ((s.getD 1 0).toNat + (rs.getD (s.getD 0 0).toNat zR).From.length)) ++ [7], (applyW rs a.2 (s.getD 0 0) (s.getD 1 0)).1)
theorem mstep_len (rs : List GRewrite) (a : List Int × List Int) (s : List Int) : a.1.length ≤ (mstep rs a s).1.length ∧ (mstep rs a s).1.length ≤ a.1.length + 2 * a.2.length + 2 := by
  simp [mstep, plus1]; omega
theorem mfold_len (rs : List GRewrite) : ∀ (ss : List (List Int)) (a : List Int × List Int), a.1.length ≤ (ss.foldl (mstep rs) a).1.length
  | [], _ => Nat.le_refl _
  | s :: ss, a => Nat.le_trans (mstep_len rs a s).1 (mfold_len rs ss _)
theorem mod_run {R : Type} {body : List Int × List Int × Int → Option ((List Int × List Int × Int) ⊕ Out (List Int × List Int × Int) R)} (rs : List GRewrite) (ss : List (List Int)) (hr : rewsB rs = true) (hn : ss.length ≤ 100) (out : R) (early : Bool)
    (h1 : ∀ (a : List Int × List Int) (i : Nat) (hi : i < ss.length), wordB a.2 = true → ss[i].length = 2 → (applyW rs a.2 (ss[i].getD 0 0) (ss[i].getD 1 0)).2 = 0 → a.1.length ≤ 1 + i * 802 →
      body (a.1, a.2, (i : Int)) = cond (early && decide (400 < (mstep rs a ss[i]).1.length)) (some (.inr (.ret out))) (some (.inl ((mstep rs a ss[i]).1, (mstep rs a ss[i]).2, w64 ((i : Int) + 1)))))
    (h2 : ∀ a b, body (a, b, (ss.length : Int)) = some (.inr (.brk (a, b, (ss.length : Int))))) (w : List Int) (hw : wordB w = true) (hd : (derW rs ss w).2 = 0) :
    (ss.foldl (mstep rs) ([0], w)).1.length ≤ 1 + ss.length * 802 ∧ (run body ([0], w, 0) = some (.brk ((ss.foldl (mstep rs) ([0], w)).1, (ss.foldl (mstep rs) ([0], w)).2, (ss.length : Int))) ∨ (early = true ∧ 400 < (ss.foldl (mstep rs) ([0], w)).1.length ∧ run body ([0], w, 0) = some (.ret out))) := by
  have key : ∀ k i (a : List Int × List Int), i + k = ss.length → wordB a.2 = true → (derW rs (ss.drop i) a.2).2 = 0 → a.1.length ≤ 1 + i * 802 →
      ((ss.drop i).foldl (mstep rs) a).1.length ≤ 1 + ss.length * 802 ∧ (run body (a.1, a.2, (i : Int)) = some (.brk (((ss.drop i).foldl (mstep rs) a).1, ((ss.drop i).foldl (mstep rs) a).2, (ss.length : Int))) ∨ (early = true ∧ 400 < ((ss.drop i).foldl (mstep rs) a).1.length ∧ run body (a.1, a.2, (i : Int)) = some (.ret out))) := by
    intro k
    induction k with
    | zero =>
      intro i a hi _ _ hl
      obtain rfl : i = ss.length := by omega
      rw [List.drop_length]
      exact ⟨hl, .inl (run_done (h2 a.1 a.2))⟩
    | succ k ih =>
      intro i a hi hw hd hl
      have hlt : i < ss.length := by omega
      rw [List.drop_eq_getElem_cons hlt] at hd ⊢
      obtain ⟨d1, d2, d3⟩ := derW_cons hd
      have hb := h1 a i hlt hw d1 d2 hl
      have hwl := wordB_len hw
      have hm := mstep_len rs a ss[i]
      have hnext := ih (i + 1) (mstep rs a ss[i]) (by omega) (applyW_word hr hw d2) d3 (by rw [Nat.add_mul]; omega)
      rw [List.foldl_cons]
      refine ⟨hnext.1, ?_⟩
      cases hc : (early && decide (400 < (mstep rs a ss[i]).1.length))
      · rw [hc] at hb
        rw [run_next hb, w64_nat1 (by omega)]
        exact hnext.2
      · rw [hc] at hb
        simp only [Bool.and_eq_true, decide_eq_true_eq] at hc
        exact .inr ⟨hc.1, Nat.lt_of_lt_of_le hc.2 (mfold_len rs _ _), run_done hb⟩
  have := key ss.length 0 ([0], w) (by omega) hw (by rw [List.drop_zero]; exact hd) (by simp)
  rwa [List.drop_zero, show ((0 : Nat) : Int) = 0 from rfl] at this
theorem copies_run {R : Type} {body : List Int × Int → Option ((List Int × Int) ⊕ Out (List Int × Int) R)} (z a : List Int) (hz : z.length ≤ 1048576) (ha : a.length ≤ 1048576)
    (h1 : ∀ (i : Nat) (hi : i < z.length) (a : List Int), a.length ≤ 4194304 → body (a, (i : Int)) = some (.inl (a ++ [w64 (z[i] + 1)], w64 ((i : Int) + 1))))
    (h2 : ∀ a, body (a, (z.length : Int)) = some (.inr (.brk (a, (z.length : Int))))) : run body (a, 0) = some (.brk (a ++ plus1 z, (z.length : Int))) := by
  have := (run_rowf (body := body) z (by omega) (fun (a : List Int) i => (a, i)) (fun a x => a ++ [w64 (x + 1)]) (fun i b => b.length = a.length + i) (by
    intro i hi b hk
    exact ⟨h1 i hi b (by omega), by simp; omega⟩) a (by omega)).1
  rw [foldl_snoc] at this
  rw [this, run_done (h2 _)]
  rfl
end Go.Fn
