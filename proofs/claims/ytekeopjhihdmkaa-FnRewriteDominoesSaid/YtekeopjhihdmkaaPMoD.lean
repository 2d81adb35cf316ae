/-
  Derivations; the plain law of MatchOfDerivation. No program in sight. No condition.
-/
import Derived.Test.YtekeopjhihdmkaaPDeriv
namespace Go.Fn
open Go Go.Tc
theorem inB_iff' {x lo hi : Int} : inB x lo hi = true ↔ lo ≤ x ∧ x ≤ hi := by
  unfold inB
  simp only [Bool.and_eq_true, decide_eq_true_eq]
theorem slc0' {α : Type} {xs : List α} {hi : Nat} (h : hi ≤ xs.length) : slc xs 0 (hi : Int) = some (xs.take hi) := by
  have := slc_ok (xs := xs) (lo := 0) (hi := hi) (Nat.zero_le _) h
  rw [List.drop_zero] at this
  exact this
def zR : GRewrite := ⟨[], []⟩
def putW (w t : List Int) (a n : Nat) : List Int := w.take a ++ t ++ w.drop (a + n)
def applyW (rs : List GRewrite) (w : List Int) (r a : Int) : List Int × Int :=
  cond (inB r 0 ((rs.length : Int) - 1) && inB a 0 (w.length : Int))
    (cond (decide ((w.drop a.toNat).take (rs.getD r.toNat zR).From.length = (rs.getD r.toNat zR).From))
      (cond (decide (400 < (putW w (rs.getD r.toNat zR).To a.toNat (rs.getD r.toNat zR).From.length).length)) ([], 5) (putW w (rs.getD r.toNat zR).To a.toNat (rs.getD r.toNat zR).From.length, 0)) ([], 3)) ([], 2)
theorem rget_len {rs : List GRewrite} (h : rewsB rs = true) (k : Nat) : (rs.getD k zR).From.length ≤ 400 ∧ (rs.getD k zR).To.length ≤ 400 := by
  rw [List.getD_eq_getElem?_getD]
  cases e : rs[k]? with
  | none => exact ⟨Nat.zero_le _, Nat.zero_le _⟩
  | some d => exact rewsB_mem h (List.mem_of_getElem? e)
theorem take_eq_len {w f : List Int} {a : Nat} (h : (w.drop a).take f.length = f) (ha : a ≤ w.length) : a + f.length ≤ w.length := by
  have := congrArg List.length h
  simp only [List.length_take, List.length_drop] at this
  omega
theorem putW_len {w t : List Int} {a n : Nat} (h : a + n ≤ w.length) : (putW w t a n).length = w.length - n + t.length := by
  simp [putW]; omega
theorem impl_begins (z f : List Int) (hz : z.length ≤ 1048576) : F_impl_begins z f = some (decide (z.take f.length = f)) := by
  unfold F_impl_begins
  by_cases h : f.length ≤ z.length
  · rw [decide_eq_true (by omega), cond_true, slc0' h, bnd_some_eq, impl_equal _ _ (by simp; omega)]
    rfl
  · rw [decide_eq_false (by omega), cond_false, decide_eq_false]
    intro e
    have := congrArg List.length e
    simp only [List.length_take] at this
    omega
theorem spec_at (w f : List Int) (a : Nat) (hw : w.length ≤ 1048576) (ha : a ≤ w.length) (hf : f.length ≤ 1048576) : F_spec_l03At w (a : Int) f = some (decide ((w.drop a).take f.length = f)) := by
  unfold F_spec_l03At
  rw [w64_add (by omega)]
  by_cases h : a + f.length ≤ w.length
  · rw [decide_eq_true (by omega), cond_true, slc_ok (by omega) h, bnd_some_eq, spec_same _ _ (by simp; omega)]
    rw [List.drop_take, Nat.add_sub_cancel_left]
    rfl
  · rw [decide_eq_false (by omega), cond_false, decide_eq_false]
    intro e
    exact h (take_eq_len e ha)
theorem spec_put (w t : List Int) (a n : Nat) (hw : w.length ≤ 1048576) (ht : t.length ≤ 1048576) (h : a + n ≤ w.length) : F_spec_l03Put w (a : Int) (n : Int) t = some (putW w t a n) := by
  unfold F_spec_l03Put
  rw [slc0' (by omega), bnd_some_eq, spec_own _ (by simp; omega), bnd_some_eq, app_ok (by simp; omega), bnd_some_eq, w64_add (by omega), slc_from h, bnd_some_eq, app_ok (by simp; omega), bnd_some_eq]
  rfl
theorem impl_put (w t : List Int) (a n : Nat) (hw : w.length ≤ 400000) (ht : t.length ≤ 400) (h : a + n ≤ w.length) : F_impl_replaced w (a : Int) (n : Int) t = some (putW w t a n) := by
  unfold F_impl_replaced
  rw [slc0' (by omega), bnd_some_eq, w64_add (by omega), slc_from h, bnd_some_eq, impl_joined _ (by simp) (by simp; omega), bnd_some_eq]
  simp [putW]
theorem spec_apply (rs : List GRewrite) (w : List Int) (r a : Int) (hr : rewsB rs = true) (hs : Sml rs) (hw : wordB w = true) : F_spec_ApplyRewrite rs w r a = some (applyW rs w r a) := by
  have hl := rewsB_len hr
  have hwl := wordB_len hw
  unfold F_spec_ApplyRewrite applyW
  rw [spec_rews rs hs, hr, spec_word w (by omega), hw, w64_in (by omega) (by omega), spec_in, spec_in]
  simp only [bnd_some_eq, Bool.not_true, cond_false, Out.elim]
  cases h1 : inB r 0 ((rs.length : Int) - 1)
  · rfl
  cases h2 : inB a 0 (w.length : Int)
  · rfl
  have h1' := inB_iff'.1 h1
  have h2' := inB_iff'.1 h2
  obtain ⟨n, rfl⟩ : ∃ n : Nat, a = n := ⟨a.toNat, by omega⟩
  simp only [Bool.not_true, cond_false, Bool.and_self, cond_true, Int.toNat_natCast]
  unfold F_spec_l10Apply
  have hg := rget_len hr r.toNat
  rw [idx_getD zR (by omega) (by omega), bnd_some_eq]
  generalize rs.getD r.toNat zR = R at hg
  rw [spec_at w R.From n (by omega) (by omega) (by omega), bnd_some_eq]
  by_cases hb : (w.drop n).take R.From.length = R.From
  · have hn := take_eq_len hb (by omega)
    have hpl := putW_len (t := R.To) hn
    rw [decide_eq_true hb, spec_put w R.To n R.From.length (by omega) (by omega) hn]
    simp only [Bool.not_true, cond_false, cond_true, bnd_some_eq]
    rw [show w64 (w64 ((w.length : Int) - (R.From.length : Int)) + (R.To.length : Int)) = ((putW w R.To n R.From.length).length : Int) by rw [w64_in (n := (w.length : Int) - (R.From.length : Int)) (by omega) (by omega), w64_in (by omega) (by omega)]; omega]
    rw [show decide ((400 : Int) < ((putW w R.To n R.From.length).length : Int)) = decide (400 < (putW w R.To n R.From.length).length) by rw [decide_eq_decide]; omega]
    cases decide (400 < (putW w R.To n R.From.length).length) <;> rfl
  · rw [decide_eq_false hb]
    rfl
theorem impl_apply (rs : List GRewrite) (w : List Int) (r a : Int) (hr : rewsB rs = true) (hwl : w.length ≤ 400) : F_impl_applyRewrite rs w r a = some (applyW rs w r a) := by
  have hl := rewsB_len hr
  unfold F_impl_applyRewrite applyW F_impl_size_impl_Rewrite F_impl_size_int64
  simp only [bnd_some_eq]
  rw [w64_in (by omega) (by omega), impl_in, impl_in]
  simp only [bnd_some_eq]
  cases h1 : inB r 0 ((rs.length : Int) - 1)
  · rfl
  cases h2 : inB a 0 (w.length : Int)
  · rfl
  have h1' := inB_iff'.1 h1
  have h2' := inB_iff'.1 h2
  obtain ⟨n, rfl⟩ : ∃ n : Nat, a = n := ⟨a.toNat, by omega⟩
  simp only [Bool.not_true, cond_false, Bool.and_self, cond_true, Int.toNat_natCast, bnd_some_eq, Out.elim]
  have hg := rget_len hr r.toNat
  rw [idx_getD zR (by omega) (by omega), bnd_some_eq]
  generalize rs.getD r.toNat zR = R at hg
  rw [slc_from (by omega), bnd_some_eq, impl_begins _ _ (by simp; omega), bnd_some_eq]
  by_cases hb : (w.drop n).take R.From.length = R.From
  · have hn := take_eq_len hb (by omega)
    rw [decide_eq_true hb, impl_put w R.To n R.From.length (by omega) (by omega) hn]
    unfold F_impl_fitting
    simp only [Bool.not_true, cond_false, cond_true, bnd_some_eq]
    rw [show decide ((400 : Int) < ((putW w R.To n R.From.length).length : Int)) = decide (400 < (putW w R.To n R.From.length).length) by rw [decide_eq_decide]; omega]
    cases decide (400 < (putW w R.To n R.From.length).length) <;> rfl
  · rw [decide_eq_false hb]
    rfl
theorem applyW_ok {rs : List GRewrite} {w : List Int} {r a : Int} (h : (applyW rs w r a).2 = 0) :
    0 ≤ r ∧ r < rs.length ∧ 0 ≤ a ∧ a.toNat + (rs.getD r.toNat zR).From.length ≤ w.length ∧ applyW rs w r a = (putW w (rs.getD r.toNat zR).To a.toNat (rs.getD r.toNat zR).From.length, 0) ∧ (putW w (rs.getD r.toNat zR).To a.toNat (rs.getD r.toNat zR).From.length).length ≤ 400 := by
  unfold applyW at h ⊢
  cases h1 : inB r 0 ((rs.length : Int) - 1)
  · rw [h1] at h; simp at h
  cases h2 : inB a 0 (w.length : Int)
  · rw [h1, h2] at h; simp at h
  rw [h1, h2] at h
  have h1' := inB_iff'.1 h1
  have h2' := inB_iff'.1 h2
  by_cases hb : (w.drop a.toNat).take (rs.getD r.toNat zR).From.length = (rs.getD r.toNat zR).From
  · have hn := take_eq_len hb (by omega)
    rw [decide_eq_true hb] at h ⊢
    by_cases hc : 400 < (putW w (rs.getD r.toNat zR).To a.toNat (rs.getD r.toNat zR).From.length).length
    · rw [decide_eq_true hc] at h; simp at h
    · rw [decide_eq_false hc]
      exact ⟨by omega, by omega, by omega, hn, rfl, by omega⟩
  · rw [decide_eq_false hb] at h; simp at h
theorem applyW_word {rs : List GRewrite} {w : List Int} {r a : Int} (hr : rewsB rs = true) (hw : wordB w = true) (h : (applyW rs w r a).2 = 0) : wordB (applyW rs w r a).1 = true := by
  obtain ⟨h1, h2, h3, h4, h5, h6⟩ := applyW_ok h
  rw [h5]
  unfold wordB at hw ⊢
  simp only [Bool.and_eq_true, decide_eq_true_eq] at hw ⊢
  refine ⟨h6, List.all_eq_true.2 fun x hx => ?_⟩
  have hT : ∀ y ∈ (rs.getD r.toNat zR).To, inB y 0 9 = true := by
    intro y hy
    have hm : rs.getD r.toNat zR ∈ rs := by
      rw [List.getD_eq_getElem?_getD, List.getElem?_eq_getElem (by omega)]
      exact List.getElem_mem _
    unfold rewsB at hr
    simp only [Bool.and_eq_true] at hr
    have := List.all_eq_true.1 hr.2 _ hm
    unfold rewB wordB at this
    simp only [Bool.and_eq_true] at this
    exact List.all_eq_true.1 this.1.2.2 y hy
  simp only [putW, List.mem_append] at hx
  rcases hx with (hx | hx) | hx
  · exact List.all_eq_true.1 hw.2 x (List.mem_of_mem_take hx)
  · exact hT x hx
  · exact List.all_eq_true.1 hw.2 x (List.mem_of_mem_drop hx)
def derW (rs : List GRewrite) : List (List Int) → List Int → List Int × Int
  | [], w => (w, 0)
  | s :: ss, w => cond (decide (s.length ≠ 2)) ([], 7) (cond (decide ((applyW rs w (s.getD 0 0) (s.getD 1 0)).2 ≠ 0)) ([], 7) (derW rs ss (applyW rs w (s.getD 0 0) (s.getD 1 0)).1))
theorem derW_cons {rs : List GRewrite} {s : List Int} {ss : List (List Int)} {w : List Int} (h : (derW rs (s :: ss) w).2 = 0) :
    s.length = 2 ∧ (applyW rs w (s.getD 0 0) (s.getD 1 0)).2 = 0 ∧ (derW rs ss (applyW rs w (s.getD 0 0) (s.getD 1 0)).1).2 = 0 := by
  unfold derW at h
  by_cases h1 : s.length ≠ 2
  · rw [decide_eq_true h1] at h; simp at h
  by_cases h2 : (applyW rs w (s.getD 0 0) (s.getD 1 0)).2 ≠ 0
  · rw [decide_eq_false h1, decide_eq_true h2] at h; simp at h
  rw [decide_eq_false h1, decide_eq_false h2] at h
  exact ⟨Classical.not_not.1 h1, Classical.not_not.1 h2, h⟩
theorem derW_len {rs : List GRewrite} : ∀ (ss : List (List Int)) (w : List Int), w.length ≤ 400 → (derW rs ss w).1.length ≤ 400 := by
  intro ss
  induction ss with
  | nil => intro w h; exact h
  | cons s ss ih =>
    intro w h
    unfold derW
    cases decide (s.length ≠ 2)
    · by_cases e2 : (applyW rs w (s.getD 0 0) (s.getD 1 0)).2 ≠ 0
      · rw [decide_eq_true e2]; exact Nat.zero_le _
      · rw [decide_eq_false e2]
        obtain ⟨_, _, _, _, q5, q6⟩ := applyW_ok (Classical.not_not.1 e2)
        exact ih _ (by rw [q5]; exact q6)
    · exact Nat.zero_le _
theorem dec_ne2 (n : Nat) : decide ((n : Int) ≠ 2) = decide (n ≠ 2) := by rw [decide_eq_decide]; omega
theorem two_get {s : List Int} (h : s.length = 2) : idx s 0 = some (s.getD 0 0) ∧ idx s 1 = some (s.getD 1 0) := by
  refine ⟨?_, ?_⟩
  · rw [idx_getD 0 (by omega) (by omega)]; rfl
  · rw [idx_getD 0 (by omega) (by omega)]; rfl
theorem derived_run {body : List Int × Int → Option ((List Int × Int) ⊕ Out (List Int × Int) (List Int × Int))} (rs : List GRewrite) (ss : List (List Int)) (hr : rewsB rs = true) (hn : ss.length ≤ 100)
    (h1 : ∀ (w : List Int) (i : Nat) (hi : i < ss.length), wordB w = true → body (w, (i : Int)) = cond (decide (ss[i].length ≠ 2)) (some (.inr (.ret ([], 7)))) (cond (decide ((applyW rs w (ss[i].getD 0 0) (ss[i].getD 1 0)).2 ≠ 0)) (some (.inr (.ret ([], 7)))) (some (.inl ((applyW rs w (ss[i].getD 0 0) (ss[i].getD 1 0)).1, w64 ((i : Int) + 1))))))
    (h2 : ∀ w, body (w, (ss.length : Int)) = some (.inr (.brk (w, (ss.length : Int))))) (w : List Int) (hw : wordB w = true) :
    bnd (run body (w, 0)) (Out.elim (fun (s13 : (List Int) × Int) => some (s13.1, 0)) (fun (r : (List Int) × Int) => some r)) = some (derW rs ss w) := by
  have key : ∀ k i w, i + k = ss.length → wordB w = true → bnd (run body (w, (i : Int))) (Out.elim (fun (s13 : (List Int) × Int) => some (s13.1, 0)) (fun (r : (List Int) × Int) => some r)) = some (derW rs (ss.drop i) w) := by
    intro k
    induction k with
    | zero =>
      intro i w hi _
      obtain rfl : i = ss.length := by omega
      rw [run_done (h2 w), List.drop_length]
      rfl
    | succ k ih =>
      intro i w hi hw
      have hlt : i < ss.length := by omega
      have hb := h1 w i hlt hw
      rw [List.drop_eq_getElem_cons hlt]
      unfold derW
      by_cases e1 : ss[i].length ≠ 2
      · rw [decide_eq_true e1] at hb ⊢
        rw [run_done hb]; rfl
      by_cases e2 : (applyW rs w (ss[i].getD 0 0) (ss[i].getD 1 0)).2 ≠ 0
      · rw [decide_eq_false e1, decide_eq_true e2] at hb ⊢
        rw [run_done hb]; rfl
      rw [decide_eq_false e1, decide_eq_false e2] at hb ⊢
      rw [run_next hb, w64_nat1 (by omega)]
      exact ih (i + 1) _ (by omega) (applyW_word hr hw (Classical.not_not.1 e2))
  have := key ss.length 0 w (by omega) hw
  rwa [List.drop_zero, show ((0 : Nat) : Int) = 0 from rfl] at this
def derP (rs : List GRewrite) (ss : List (List Int)) (w : List Int) : List Int × Int := cond (decide (100 < ss.length)) ([], 2) (derW rs ss w)
theorem dec_100 (n : Nat) : decide ((100 : Int) < (n : Int)) = decide (100 < n) := by rw [decide_eq_decide]; omega
theorem spec_derived (rs : List GRewrite) (w : List Int) (ss : List (List Int)) (hr : rewsB rs = true) (hs : Sml rs) (hw : wordB w = true) (hss : ss.length ≤ 1048576) : F_spec_CheckDerivation rs w ss = some (derP rs ss w) := by
  have hwl := wordB_len hw
  unfold F_spec_CheckDerivation derP
  rw [spec_rews rs hs, hr, spec_word w (by omega), hw, dec_100]
  simp only [bnd_some_eq, Bool.not_true, cond_false, Out.elim]
  by_cases h : 100 < ss.length
  · rw [decide_eq_true h]; rfl
  rw [decide_eq_false h, cond_false, cond_false, spec_own w (by omega), bnd_some_eq]
  refine derived_run (body := F_spec_CheckDerivation_L1 rs ss) rs ss hr (by omega) (fun w i hi hw => ?_) (fun w => by simp [F_spec_CheckDerivation_L1]) w hw
  simp only [F_spec_CheckDerivation_L1, Int.ofNat_lt, hi, decide_true, cond_true, idx_nat hi, bnd_some_eq, dec_ne2]
  by_cases e1 : ss[i].length ≠ 2
  · rw [decide_eq_true e1]; rfl
  · obtain ⟨g1, g2⟩ := two_get (Classical.not_not.1 e1)
    rw [decide_eq_false e1, g1, g2]
    simp only [cond_false, bnd_some_eq, spec_apply rs w _ _ hr hs hw]
theorem impl_derived (rs : List GRewrite) (w : List Int) (ss : List (List Int)) (hr : rewsB rs = true) (hw : wordB w = true) (hss : ss.length ≤ 1048576) : F_impl_derived rs w ss = some (derP rs ss w) := by
  have hwl := wordB_len hw
  unfold F_impl_derived derP
  rw [dec_100]
  by_cases h : 100 < ss.length
  · rw [decide_eq_true h]; rfl
  rw [decide_eq_false h, cond_false, cond_false, impl_clone w (by omega), bnd_some_eq]
  refine derived_run (body := F_impl_derived_L1 rs ss) rs ss hr (by omega) (fun w i hi hw => ?_) (fun w => by simp [F_impl_derived_L1]) w hw
  simp only [F_impl_derived_L1, Int.ofNat_lt, hi, decide_true, cond_true, idx_nat hi, bnd_some_eq, dec_ne2]
  by_cases e1 : ss[i].length ≠ 2
  · rw [decide_eq_true e1]; rfl
  · obtain ⟨g1, g2⟩ := two_get (Classical.not_not.1 e1)
    rw [decide_eq_false e1, g1, g2]
    simp only [cond_false, bnd_some_eq, impl_apply rs w _ _ hr (wordB_len hw)]
/-! ### The match of a derivation -/
def plus1 (xs : List Int) : List Int := xs.map fun x => w64 (x + 1)
def mstep (rs : List GRewrite) (a : List Int × List Int) (s : List Int) : List Int × List Int :=
  (a.1 ++ plus1 (a.2.take (s.getD 1 0).toNat) ++ [w64 (8 + s.getD 0 0)] ++ plus1 (a.2.drop ((s.getD 1 0).toNat + (rs.getD (s.getD 0 0).toNat zR).From.length)) ++ [7], (applyW rs a.2 (s.getD 0 0) (s.getD 1 0)).1)
theorem mstep_len (rs : List GRewrite) (a : List Int × List Int) (s : List Int) : a.1.length ≤ (mstep rs a s).1.length ∧ (mstep rs a s).1.length ≤ a.1.length + 2 * a.2.length + 2 := by
  simp [mstep, plus1]; omega
theorem mfold_len (rs : List GRewrite) : ∀ (ss : List (List Int)) (a : List Int × List Int), a.1.length ≤ (ss.foldl (mstep rs) a).1.length
  | [], _ => Nat.le_refl _
  | s :: ss, a => Nat.le_trans (mstep_len rs a s).1 (mfold_len rs ss _)
theorem mod_run {R : Type} {body : List Int × List Int × Int → Option ((List Int × List Int × Int) ⊕ Out (List Int × List Int × Int) R)} (rs : List GRewrite) (ss : List (List Int)) (hr : rewsB rs = true) (hn : ss.length ≤ 100) (out : R) (early : Bool)
    (h1 : ∀ (a : List Int × List Int) (i : Nat) (hi : i < ss.length), wordB a.2 = true → ss[i].length = 2 → (applyW rs a.2 (ss[i].getD 0 0) (ss[i].getD 1 0)).2 = 0 → a.1.length ≤ 1 + i * 802 →
      body (a.1, a.2, (i : Int)) = cond (early && decide (400 < (mstep rs a ss[i]).1.length)) (some (.inr (.ret out))) (some (.inl ((mstep rs a ss[i]).1, (mstep rs a ss[i]).2, w64 ((i : Int) + 1)))))
    (h2 : ∀ a b, body (a, b, (ss.length : Int)) = some (.inr (.brk (a, b, (ss.length : Int))))) (w : List Int) (hw : wordB w = true) (hd : (derW rs ss w).2 = 0) :
    (ss.foldl (mstep rs) ([0], w)).1.length ≤ 1 + ss.length * 802 ∧ (run body ([0], w, 0) = some (.brk ((ss.foldl (mstep rs) ([0], w)).1, (ss.foldl (mstep rs) ([0], w)).2, (ss.length : Int))) ∨ (early = true ∧ 400 < (ss.foldl (mstep rs) ([0], w)).1.length ∧ run body ([0], w, 0) = some (.ret out))) := by
  have key : ∀ k i (a : List Int × List Int), i + k = ss.length → wordB a.2 = true → (derW rs (ss.drop i) a.2).2 = 0 → a.1.length ≤ 1 + i * 802 →
      ((ss.drop i).foldl (mstep rs) a).1.length ≤ 1 + ss.length * 802 ∧ (run body (a.1, a.2, (i : Int)) = some (.brk (((ss.drop i).foldl (mstep rs) a).1, ((ss.drop i).foldl (mstep rs) a).2, (ss.length : Int))) ∨ (early = true ∧ 400 < ((ss.drop i).foldl (mstep rs) a).1.length ∧ run body (a.1, a.2, (i : Int)) = some (.ret out))) := by
    intro k
    induction k with
    | zero =>
      intro i a hi _ _ hl
      obtain rfl : i = ss.length := by omega
      rw [List.drop_length]
      exact ⟨hl, .inl (run_done (h2 a.1 a.2))⟩
    | succ k ih =>
      intro i a hi hw hd hl
      have hlt : i < ss.length := by omega
      rw [List.drop_eq_getElem_cons hlt] at hd ⊢
      obtain ⟨d1, d2, d3⟩ := derW_cons hd
      have hb := h1 a i hlt hw d1 d2 hl
      have hwl := wordB_len hw
      have hm := mstep_len rs a ss[i]
      have hnext := ih (i + 1) (mstep rs a ss[i]) (by omega) (applyW_word hr hw d2) d3 (by rw [Nat.add_mul]; omega)
      rw [List.foldl_cons]
      refine ⟨hnext.1, ?_⟩
      cases hc : (early && decide (400 < (mstep rs a ss[i]).1.length))
      · rw [hc] at hb
        rw [run_next hb, w64_nat1 (by omega)]
        exact hnext.2
      · rw [hc] at hb
        simp only [Bool.and_eq_true, decide_eq_true_eq] at hc
        exact .inr ⟨hc.1, Nat.lt_of_lt_of_le hc.2 (mfold_len rs _ _), run_done hb⟩
  have := key ss.length 0 ([0], w) (by omega) hw (by rw [List.drop_zero]; exact hd) (by simp)
  rwa [List.drop_zero, show ((0 : Nat) : Int) = 0 from rfl] at this
theorem copies_run {R : Type} {body : List Int × Int → Option ((List Int × Int) ⊕ Out (List Int × Int) R)} (z a : List Int) (hz : z.length ≤ 1048576) (ha : a.length ≤ 1048576)
    (h1 : ∀ (i : Nat) (hi : i < z.length) (a : List Int), a.length ≤ 4194304 → body (a, (i : Int)) = some (.inl (a ++ [w64 (z[i] + 1)], w64 ((i : Int) + 1))))
    (h2 : ∀ a, body (a, (z.length : Int)) = some (.inr (.brk (a, (z.length : Int))))) : run body (a, 0) = some (.brk (a ++ plus1 z, (z.length : Int))) := by
  have := (run_rowf (body := body) z (by omega) (fun (a : List Int) i => (a, i)) (fun a x => a ++ [w64 (x + 1)]) (fun i b => b.length = a.length + i) (by
    intro i hi b hk
    exact ⟨h1 i hi b (by omega), by simp; omega⟩) a (by omega)).1
  rw [foldl_snoc] at this
  rw [this, run_done (h2 _)]
  rfl
theorem ex_MatchOfDerivation (rs : List GRewrite) (f t : List Int) (ss : List (List Int)) (s0 : Sml rs) (s1 : Sml f) (s2 : Sml t) (s3 : Sml ss) :
    ∃ w : List Int × Int, F_spec_MatchOfDerivation rs f t ss = some w ∧ F_impl_MatchOfDerivation rs f t ss = some w ∧ Med w.1 ∧ Cnt.cnt w.1 ≤ 1152921504606846976 := by
  have nil : Med ([] : List Int) ∧ Cnt.cnt ([] : List Int) ≤ 1152921504606846976 := ints_fit (Nat.zero_le _)
  unfold F_spec_MatchOfDerivation F_impl_MatchOfDerivation F_impl_RewritesToDominoes
  obtain ⟨e1, e2, e3⟩ := ready_eq rs f t s0 s1 s2
  rw [e1, e2, e3]
  simp only [bnd_some_eq]
  cases hr : rewsB rs
  · exact ⟨_, rfl, rfl, nil⟩
  cases hf : wordB f
  · exact ⟨_, rfl, rfl, nil⟩
  cases ht : wordB t
  · exact ⟨_, rfl, rfl, nil⟩
  simp only [Bool.and_self, Bool.not_true, cond_false]
  have lf := wordB_len hf
  have lt := wordB_len ht
  rw [spec_rules rs f t hr s0 lf lt, impl_rules rs f t hr s0 lf lt]
  simp only [bnd_some_eq]
  by_cases hc' : (rulesP rs f t).2 ≠ 0
  · rw [decide_eq_true hc']; exact ⟨_, rfl, rfl, nil⟩
  obtain ⟨hp, hD⟩ := rulesP_ok (Classical.not_not.1 hc')
  rw [decide_eq_false hc', hp]
  simp only [cond_false]
  rw [spec_derived rs f ss hr s0 hf s3.1, impl_derived rs f ss hr hf s3.1]
  simp only [bnd_some_eq]
  by_cases hd' : (derP rs ss f).2 ≠ 0
  · rw [decide_eq_true hd']; exact ⟨_, rfl, rfl, nil⟩
  have hd := Classical.not_not.1 hd'
  rw [decide_eq_false hd']
  unfold derP at hd ⊢
  by_cases h100 : 100 < ss.length
  · rw [decide_eq_true h100] at hd; simp at hd
  rw [decide_eq_false h100] at hd ⊢
  simp only [cond_false] at hd ⊢
  have hdl : (derW rs ss f).1.length ≤ 1048576 := by
    have := derW_len (rs := rs) ss f lf
    omega
  rw [spec_same _ _ hdl, impl_equal _ _ hdl]
  simp only [bnd_some_eq]
  by_cases he : (derW rs ss f).1 = t
  · rw [decide_eq_true he]
    simp only [Bool.not_true, cond_false]
    rw [spec_own f (by omega), bnd_some_eq]
    obtain ⟨bl, hs⟩ := mod_run (body := F_spec_MatchOfDerivation_L1 rs ss) rs ss hr (by omega) ([], 5) true (fun a i hi hw d1 d2 hl => by
      obtain ⟨g1, g2⟩ := two_get d1
      obtain ⟨q1, q2, q3, q4, q5, q6⟩ := applyW_ok d2
      have hwl := wordB_len hw
      have hrl := rget_len hr (ss[i].getD 0 0).toNat
      simp only [F_spec_MatchOfDerivation_L1, Int.ofNat_lt, hi, decide_true, cond_true, idx_nat hi, bnd_some_eq, g1, g2]
      rw [idx_getD zR q1 q2, bnd_some_eq]
      obtain ⟨n, hn⟩ : ∃ n : Nat, ss[i].getD 1 0 = n := ⟨(ss[i].getD 1 0).toNat, by omega⟩
      unfold mstep
      rw [q5]
      rw [hn] at q4 ⊢
      rw [Int.toNat_natCast] at q4 ⊢
      generalize hR : rs.getD (ss[i].getD 0 0).toNat zR = Ru at *
      rw [slc0' (by omega), bnd_some_eq, copies_run (body := F_spec_MatchOfDerivation_L2 (a.2.take n)) (a.2.take n) a.1 (by simp; omega) (by omega) (fun j hj b hb => by
        simp only [F_spec_MatchOfDerivation_L2, Int.ofNat_lt, hj, decide_true, cond_true, idx_nat hj, bnd_some_eq]
        rw [app_ok (by simp; omega), bnd_some_eq, Int.add_comm 1]) (fun b => by simp [F_spec_MatchOfDerivation_L2])]
      simp only [bnd_some_eq, Out.elim]
      rw [app_ok (by simp [plus1]; omega), bnd_some_eq, w64_add (by omega), slc_from (by omega), bnd_some_eq, copies_run (body := F_spec_MatchOfDerivation_L3 (a.2.drop (n + Ru.From.length))) (a.2.drop (n + Ru.From.length)) _ (by simp; omega) (by simp [plus1]; omega) (fun j hj b hb => by
        simp only [F_spec_MatchOfDerivation_L3, Int.ofNat_lt, hj, decide_true, cond_true, idx_nat hj, bnd_some_eq]
        rw [app_ok (by simp; omega), bnd_some_eq, Int.add_comm 1]) (fun b => by simp [F_spec_MatchOfDerivation_L3])]
      simp only [bnd_some_eq, Out.elim]
      rw [app_ok (by simp [plus1]; omega), bnd_some_eq, spec_put _ _ _ _ (by omega) (by omega) (by omega), bnd_some_eq]
      rw [Bool.true_and]
      generalize (a.1 ++ plus1 (a.2.take n) ++ [w64 (8 + ss[i].getD 0 0)] ++ plus1 (a.2.drop (n + Ru.From.length)) ++ [7]) = L
      rw [show decide ((400 : Int) < (L.length : Int)) = decide (400 < L.length) by rw [decide_eq_decide]; omega])
      (fun a b => by simp [F_spec_MatchOfDerivation_L1]) f hf hd
    obtain ⟨_, hi⟩ := mod_run (body := F_impl_MatchOfDerivation_L1 rs ss) rs ss hr (by omega) ([], 5) false (fun a i hi hw d1 d2 hl => by
      obtain ⟨g1, g2⟩ := two_get d1
      obtain ⟨q1, q2, q3, q4, q5, q6⟩ := applyW_ok d2
      have hwl := wordB_len hw
      have hrl := rget_len hr (ss[i].getD 0 0).toNat
      simp only [F_impl_MatchOfDerivation_L1, Int.ofNat_lt, hi, decide_true, cond_true, idx_nat hi, bnd_some_eq, g1, g2]
      rw [idx_getD zR q1 q2, bnd_some_eq, impl_apply rs a.2 _ _ hr hwl]
      obtain ⟨n, hn⟩ : ∃ n : Nat, ss[i].getD 1 0 = n := ⟨(ss[i].getD 1 0).toNat, by omega⟩
      unfold mstep
      rw [q5]
      rw [hn] at q4 ⊢
      rw [Int.toNat_natCast] at q4 ⊢
      generalize hR : rs.getD (ss[i].getD 0 0).toNat zR = Ru at *
      rw [w64_add (by omega), slc_from (by omega), bnd_some_eq, slc0' (by omega), bnd_some_eq, impl_moved _ _ (by simp; omega), bnd_some_eq, impl_moved _ _ (by simp; omega), bnd_some_eq, impl_joined _ (by simp) (by simp; omega), bnd_some_eq, bnd_some_eq]
      rw [Bool.false_and, cond_false]
      have e : ([a.1, (a.2.take n).map (fun x => w64 (x + 1)), [w64 (8 + ss[i].getD 0 0)], (a.2.drop (n + Ru.From.length)).map (fun x => w64 (x + 1)), [7]] : List (List Int)).flatten = a.1 ++ plus1 (a.2.take n) ++ [w64 (8 + ss[i].getD 0 0)] ++ plus1 (a.2.drop (n + Ru.From.length)) ++ [7] := by
        simp [plus1]
      rw [e])
      (fun a b => by simp [F_impl_MatchOfDerivation_L1]) f hf hd
    have hi := hi.resolve_right (fun h => by cases h.1)
    have hdl2 := domsB_len hD
    unfold F_impl_size_impl_Domino F_impl_shortMatch
    generalize ss.foldl (mstep rs) ([0], f) = F at *
    have hFl : F.1.length ≤ 100000 := by omega
    rcases hs with hs | ⟨_, h4, hs⟩
    · rw [hs, hi]
      simp only [bnd_some_eq, Out.elim]
      rw [app_ok (by simp; omega)]
      simp only [bnd_some_eq]
      generalize hG : F.1 ++ [w64 (((rulesL rs f t).length : Int) - 1)] = G
      have hGl : G.length ≤ 100001 := by rw [← hG]; simp; omega
      cases decide (400 < (G.length : Int))
      · exact ⟨_, rfl, rfl, ints_fit (by show G.length ≤ _; omega)⟩
      · exact ⟨_, rfl, rfl, nil⟩
    · rw [hs, hi]
      simp only [bnd_some_eq, Out.elim]
      rw [app_ok (by simp; omega)]
      simp only [bnd_some_eq]
      rw [decide_eq_true (by simp; omega)]
      exact ⟨_, rfl, rfl, nil⟩
  · rw [decide_eq_false he]
    exact ⟨_, rfl, rfl, nil⟩
end Go.Fn
