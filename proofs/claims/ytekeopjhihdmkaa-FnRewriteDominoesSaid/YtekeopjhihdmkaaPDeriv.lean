/-
  Derivations of matches; the plain law of DerivationOfMatch. No program in sight. No condition.
-/
import Derived.Test.YtekeopjhihdmkaaPRules
import Derived.Test.YtekeopjhihdmkaaPMatch
namespace Go.Fn
open Go Go.Tc
theorem rows_fit {xs : List (List Int)} (h1 : xs.length ≤ 1048576) (h2 : ∀ x ∈ xs, x.length ≤ 1048576) : Med xs ∧ Cnt.cnt xs ≤ 1152921504606846976 :=
  ⟨⟨by omega, fun x hx => ⟨by have := h2 x hx; omega, fun _ _ => trivial⟩⟩, Nat.le_trans (cnt_le (n := 1048576) (m := 1048576) h1 (fun x hx => by rw [cnt_ints]; exact h2 x hx)) (by decide)⟩
def dstep (ds : List GDomino) (a : List (List Int) × Int) (y : Int) : List (List Int) × Int :=
  cond (decide (y = 0)) (a.1, 0) (cond (decide (y = 7)) (a.1, 0) (cond (decide (8 ≤ y)) (a.1 ++ [[w64 (y - 8), a.2]]) a.1, w64 (a.2 + ((ds.getD y.toNat zD).Bottom.length : Int))))
theorem dstep_inv {ds : List GDomino} {a : List (List Int) × Int} {y : Int} {i : Nat} (h : a.1.length ≤ i ∧ ∀ x ∈ a.1, x.length ≤ 2) : (dstep ds a y).1.length ≤ i + 1 ∧ ∀ x ∈ (dstep ds a y).1, x.length ≤ 2 := by
  unfold dstep
  cases decide (y = 0)
  · cases decide (y = 7)
    · cases decide (8 ≤ y)
      · exact ⟨by show a.1.length ≤ _; omega, h.2⟩
      · refine ⟨by simp; omega, fun x hx => ?_⟩
        simp only [cond_false, cond_true, List.mem_append, List.mem_singleton] at hx
        rcases hx with hx | rfl
        · exact h.2 x hx
        · simp
    · exact ⟨by show a.1.length ≤ _; omega, h.2⟩
  · exact ⟨by show a.1.length ≤ _; omega, h.2⟩
theorem takeWhile_stop {xs : List Int} {p : Int → Bool} (h : (xs.takeWhile p).length < xs.length) : p (xs[(xs.takeWhile p).length]) = false := by
  have h3 := List.takeWhile_append_dropWhile (p := p) (l := xs)
  have h4 : xs[(xs.takeWhile p).length]? = (xs.dropWhile p)[0]? := by
    have : (xs.takeWhile p ++ xs.dropWhile p)[(xs.takeWhile p).length]? = (xs.dropWhile p)[0]? := by rw [List.getElem?_append_right (Nat.le_refl _), Nat.sub_self]
    rwa [h3] at this
  rw [List.getElem?_eq_getElem h] at h4
  have h5 := List.head?_dropWhile_not p xs
  rw [List.head?_eq_getElem?, ← h4] at h5
  simpa using h5
def derivR (ds : List GDomino) (ms : List Int) : List (List Int) × Int := ((ms.drop 1).takeWhile fun y => decide (y ≠ (ds.length : Int) - 1)).foldl (dstep ds) ([], 0)
theorem derivR_inv (ds : List GDomino) (ms : List Int) (h : ms.length ≤ 400) : (derivR ds ms).1.length ≤ 400 ∧ ∀ x ∈ (derivR ds ms).1, x.length ≤ 2 := by
  have key : ∀ (xs : List Int) (a : List (List Int) × Int) (i : Nat), (a.1.length ≤ i ∧ ∀ x ∈ a.1, x.length ≤ 2) → (xs.foldl (dstep ds) a).1.length ≤ i + xs.length ∧ ∀ x ∈ (xs.foldl (dstep ds) a).1, x.length ≤ 2 := by
    intro xs
    induction xs with
    | nil => intro a i h; exact h
    | cons y xs ih =>
      intro a i h
      have := ih _ _ (dstep_inv (ds := ds) (y := y) h)
      rw [List.foldl_cons, List.length_cons]
      exact ⟨by omega, this.2⟩
  have := key ((ms.drop 1).takeWhile fun y => decide (y ≠ (ds.length : Int) - 1)) ([], 0) 0 ⟨Nat.zero_le _, by simp⟩
  have hl := (List.takeWhile_prefix (l := ms.drop 1) (fun y => decide (y ≠ (ds.length : Int) - 1))).length_le
  simp only [List.length_drop] at hl
  exact ⟨by unfold derivR; omega, this.2⟩
def shortP (xs : List (List Int)) : List (List Int) × Int := cond (decide (100 < xs.length)) ([], 5) (xs, 0)
theorem impl_short (xs : List (List Int)) : F_impl_shortDerivation xs = some (shortP xs) := by
  unfold F_impl_shortDerivation shortP
  rw [show decide ((100 : Int) < (xs.length : Int)) = decide (100 < xs.length) by rw [decide_eq_decide]; omega]
  cases decide (100 < xs.length) <;> rfl
theorem impl_derivloop (ds : List GDomino) (k : Int) (ms : List Int) (hd : ds.length ≤ 80) (hr : rangeB ds.length ms = true) :
    bnd (run (F_impl_DerivationOfMatch_L1 (ds, k) (ms.drop 1)) (([] : List (List Int)), 0, 0)) (Out.elim (fun (s18 : (List (List Int)) × Int × Int) => bnd (F_impl_shortDerivation s18.1) fun r53 => some (r53.1, r53.2)) (fun (r : (List (List Int)) × Int) => some r)) = some (shortP (derivR ds ms).1) := by
  have hlen := rangeB_len hr
  have hdl : (ms.drop 1).length = ms.length - 1 := by simp
  have ew : w64 ((ds.length : Int) - 1) = (ds.length : Int) - 1 := w64_in (by omega) (by omega)
  have hmem : ∀ i (hi : i < (ms.drop 1).length), 0 ≤ (ms.drop 1)[i] ∧ (ms.drop 1)[i] < ds.length := fun i hi => rangeB_mem hr (List.mem_of_mem_drop (List.getElem_mem hi))
  have := (run_rowkx (body := F_impl_DerivationOfMatch_L1 (ds, k) (ms.drop 1)) (ms.drop 1) 0 (fun (a : List (List Int) × Int) i => (a.1, a.2, (i : Int))) (dstep ds) (fun y => decide (y ≠ (ds.length : Int) - 1)) (fun i a => a.1.length ≤ i ∧ ∀ x ∈ a.1, x.length ≤ 2) (by
    intro i hi a hk hp
    refine ⟨?_, dstep_inv hk⟩
    have hm := hmem i hi
    have hp' : decide ((ms.drop 1)[i] = (ds.length : Int) - 1) = false := by simpa using hp
    rw [Nat.zero_add, Nat.zero_add]
    simp only [F_impl_DerivationOfMatch_L1, F_impl_size_impl_Domino, F_impl_size_int64, Int.ofNat_lt, hi, decide_true, cond_true, idx_nat hi, bnd_some_eq, ew, hp', cond_false]
    unfold dstep
    rw [w64_nat1 (by omega)]
    cases decide ((ms.drop 1)[i] = 0)
    · cases decide ((ms.drop 1)[i] = 7)
      · rw [idx_getD zD hm.1 hm.2]
        cases decide (8 ≤ (ms.drop 1)[i])
        · rfl
        · rw [cond_true, app_ok (by simp; omega)]
          rfl
      · rfl
    · rfl) ([], 0) ⟨Nat.zero_le _, by simp⟩).1
  rw [show (([] : List (List Int)), (0 : Int), (0 : Int)) = (([] : List (List Int)), (0 : Int), ((0 : Nat) : Int)) from rfl, this]
  have hWl := (List.takeWhile_prefix (l := ms.drop 1) (fun y => decide (y ≠ (ds.length : Int) - 1))).length_le
  show bnd (run (F_impl_DerivationOfMatch_L1 (ds, k) (ms.drop 1)) ((derivR ds ms).1, (derivR ds ms).2, _)) _ = _
  rw [Nat.zero_add]
  by_cases he : ((ms.drop 1).takeWhile fun y => decide (y ≠ (ds.length : Int) - 1)).length = (ms.drop 1).length
  · rw [he, run_done (x := Out.brk ((derivR ds ms).1, (derivR ds ms).2, ((ms.drop 1).length : Int))) (by simp [F_impl_DerivationOfMatch_L1])]
    simp only [bnd_some_eq, Out.elim, impl_short]
  · have hlt : ((ms.drop 1).takeWhile fun y => decide (y ≠ (ds.length : Int) - 1)).length < (ms.drop 1).length := by omega
    have hs := takeWhile_stop hlt
    generalize ((ms.drop 1).takeWhile fun y => decide (y ≠ (ds.length : Int) - 1)).length = n at *
    have hs' : decide ((ms.drop 1)[n] = (ds.length : Int) - 1) = true := by simpa using hs
    rw [run_done (x := Out.ret (shortP (derivR ds ms).1)) (by
      simp only [F_impl_DerivationOfMatch_L1, F_impl_size_impl_Domino, Int.ofNat_lt, hlt, decide_true, cond_true, idx_nat hlt, bnd_some_eq, ew, hs', impl_short])]
    rfl
theorem rulesP_ok {rs : List GRewrite} {f t : List Int} (h : (rulesP rs f t).2 = 0) : rulesP rs f t = (rulesL rs f t, 0) ∧ domsB (rulesL rs f t) = true := by
  unfold rulesP at h ⊢
  revert h
  cases smallB f && smallB t && rs.all (fun r => leastB 5 (toD r)) <;> cases hD : domsB (rulesL rs f t) <;> simp
theorem ready_eq (rs : List GRewrite) (f t : List Int) (s0 : Sml rs) (s1 : Sml f) (s2 : Sml t) : F_spec_l32Ready rs f t = some (rewsB rs && (wordB f && wordB t)) ∧ F_impl_ValidRewrites rs = some (rewsB rs) ∧ F_impl_areWords [f, t] = some (wordB f && wordB t) := by
  refine ⟨?_, impl_rews rs s0, two_words f t s1 s2⟩
  unfold F_spec_l32Ready
  rw [spec_rews rs s0, bnd_some_eq, spec_word f s1.1, spec_word t s2.1]
  cases rewsB rs
  · rfl
  · cases wordB f <;> rfl
end Go.Fn
