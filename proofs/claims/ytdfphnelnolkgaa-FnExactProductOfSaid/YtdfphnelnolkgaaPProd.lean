/-
  Products of the matrices of dominoes; the plain law of ProductOf. No program in sight. No condition.
-/
import Derived.Test.YtdfphnelnolkgaaPSqDom
namespace Go.Fn
open Go Go.Tc
theorem good_nonneg : ∀ n : Nat, Good (n : Int) := by
  intro n
  induction n using Nat.strongRecOn with
  | ind n ih =>
    by_cases h : n = 0
    · subst h; exact ⟨[], by simp [dig], rfl⟩
    · obtain ⟨X, h1, h2⟩ := ih (n / 1000000) (by omega)
      refine ⟨((n % 1000000 : Nat) : Int) :: X, dig_cons.2 ⟨by omega, h1⟩, ?_⟩
      rw [val_cons, h2]
      omega
theorem good_ge {v : Int} (h : 0 ≤ v) : Good v := by
  obtain ⟨n, rfl⟩ : ∃ n : Nat, v = n := ⟨v.toNat, by omega⟩
  exact good_nonneg n
theorem good_pos {v : Int} (h : Good v) : 0 ≤ v := by
  obtain ⟨X, h1, rfl⟩ := h
  exact val_nonneg h1
abbrev T4 := Int × Int × Int × Int
def mulT (t s : T4) : T4 := (t.1 * s.1, t.2.1 * s.2.1, t.2.2.1 * s.1 + s.2.2.1, t.2.2.2 * s.2.1 + s.2.2.2)
noncomputable def sqT (t : T4) : List (List Int) := sqM t.1 t.2.1 t.2.2.1 t.2.2.2
noncomputable def fitsT (t : T4) : Bool := fitT t.1 t.2.1 t.2.2.1 t.2.2.2
def okT (t : T4) : Prop := 1 ≤ t.1 ∧ 1 ≤ t.2.1 ∧ 0 ≤ t.2.2.1 ∧ 0 ≤ t.2.2.2
def lenT (m : Nat) (t : T4) : Prop := (enc t.1).length ≤ m ∧ (enc t.2.1).length ≤ m ∧ (enc t.2.2.1).length ≤ m ∧ (enc t.2.2.2).length ≤ m
theorem fits_len {t : T4} : fitsT t = true ↔ lenT 40 t := by
  unfold fitsT fitT lenT
  simp only [Bool.and_eq_true, decide_eq_true_eq]
  constructor
  · intro h; exact ⟨h.1.1.1, h.1.1.2, h.1.2, h.2⟩
  · intro h; exact ⟨⟨⟨h.1, h.2.1⟩, h.2.2.1⟩, h.2.2.2⟩
theorem lenT.up {m k : Nat} {t : T4} (h : lenT m t) (hk : m ≤ k) : lenT k t := ⟨Nat.le_trans h.1 hk, Nat.le_trans h.2.1 hk, Nat.le_trans h.2.2.1 hk, Nat.le_trans h.2.2.2 hk⟩
theorem okT.mul {t s : T4} (ht : okT t) (hs : okT s) : okT (mulT t s) := by
  obtain ⟨a1, a2, a3, a4⟩ := ht
  obtain ⟨b1, b2, b3, b4⟩ := hs
  have h1 := Int.mul_le_mul a1 b1 (by omega) (by omega)
  have h2 := Int.mul_le_mul a2 b2 (by omega) (by omega)
  have h3 := Int.mul_nonneg a3 (show 0 ≤ s.1 by omega)
  have h4 := Int.mul_nonneg a4 (show 0 ≤ s.2.1 by omega)
  unfold mulT okT
  simp only []
  omega
theorem le_mul_right' {a b : Int} (ha : 0 ≤ a) (hb : 1 ≤ b) : a ≤ a * b := by
  have := Int.mul_le_mul_of_nonneg_left hb ha
  rwa [Int.mul_one] at this
theorem fits_mul {t s : T4} (ht : okT t) (hs : okT s) (h : fitsT (mulT t s) = true) : fitsT t = true ∧ fitsT s = true := by
  obtain ⟨a1, a2, a3, a4⟩ := ht
  obtain ⟨b1, b2, b3, b4⟩ := hs
  have hm := okT.mul ⟨a1, a2, a3, a4⟩ ⟨b1, b2, b3, b4⟩
  obtain ⟨c1, c2, c3, c4⟩ := hm
  rw [fits_len] at h ⊢
  rw [fits_len]
  obtain ⟨l1, l2, l3, l4⟩ := h
  have x1 := le_mul_right' (show 0 ≤ t.1 by omega) b1
  have x2 := le_mul_right' (show 0 ≤ t.2.1 by omega) b2
  have x3 := le_mul_right' a3 b1
  have x4 := le_mul_right' a4 b2
  have y1 : s.1 ≤ t.1 * s.1 := by rw [Int.mul_comm]; exact le_mul_right' (by omega) a1
  have y2 : s.2.1 ≤ t.2.1 * s.2.1 := by rw [Int.mul_comm]; exact le_mul_right' (by omega) a2
  have z3 := Int.mul_nonneg a3 (show 0 ≤ s.1 by omega)
  have z4 := Int.mul_nonneg a4 (show 0 ≤ s.2.1 by omega)
  have m1 : ∀ {u v : Int}, 0 ≤ u → u ≤ v → (enc u).length ≤ (enc v).length := fun h0 h1 => len_mono (good_ge h0) (good_ge (by omega)) h1
  refine ⟨⟨Nat.le_trans (m1 (by omega) x1) l1, Nat.le_trans (m1 (by omega) x2) l2, Nat.le_trans (m1 a3 (by show t.2.2.1 ≤ t.2.2.1 * s.1 + s.2.2.1; omega)) l3, Nat.le_trans (m1 a4 (by show t.2.2.2 ≤ t.2.2.2 * s.2.1 + s.2.2.2; omega)) l4⟩,
    ⟨Nat.le_trans (m1 (by omega) y1) l1, Nat.le_trans (m1 (by omega) y2) l2, Nat.le_trans (m1 b3 (by show s.2.2.1 ≤ t.2.2.1 * s.1 + s.2.2.1; omega)) l3, Nat.le_trans (m1 b4 (by show s.2.2.2 ≤ t.2.2.2 * s.2.1 + s.2.2.2; omega)) l4⟩⟩
theorem mat_sq {m : Nat} {t : T4} (h : lenT m t) (h1 : 1 ≤ m) : Mat m (sqT t) := by
  refine ⟨rfl, fun x hx => ?_⟩
  have e1 : (enc 1).length ≤ m := by rw [(enc_small (n := 1) (by decide)).1]; exact h1
  obtain ⟨l1, l2, l3, l4⟩ := h
  unfold sqT sqM at hx
  simp only [List.mem_cons, List.not_mem_nil, or_false] at hx
  rcases hx with rfl | rfl | rfl | rfl | rfl | rfl | rfl | rfl | rfl <;> first | exact ⟨dig_enc _, by omega⟩ | exact ⟨by simp [dig], by simp⟩
theorem prod_sq {t s : T4} (ht : okT t) (hs : okT s) : prodL (sqT t) (sqT s) = sqT (mulT t s) := by
  obtain ⟨a1, a2, a3, a4⟩ := ht
  obtain ⟨b1, b2, b3, b4⟩ := hs
  have v1 := val_enc (good_ge (show 0 ≤ t.1 by omega))
  have v2 := val_enc (good_ge (show 0 ≤ t.2.1 by omega))
  have v3 := val_enc (good_ge a3)
  have v4 := val_enc (good_ge a4)
  have u1 := val_enc (good_ge (show 0 ≤ s.1 by omega))
  have u2 := val_enc (good_ge (show 0 ≤ s.2.1 by omega))
  have u3 := val_enc (good_ge b3)
  have u4 := val_enc (good_ge b4)
  have o1 := val_enc (enc_small (n := 1) (by decide)).2
  simp [prodL, List.range_succ, ent, at9, sqT, sqM, mulT, v1, v2, v3, v4, u1, u2, u3, u4, o1, val_nil, enc_zero]
theorem prod_len {m : Nat} {t s : T4} (hm : 1 ≤ m ∧ m ≤ 10000) (ht : okT t) (hs : okT s) (lt : lenT m t) (ls : lenT m s) : lenT (2 * m + 4) (mulT t s) := by
  have h := prodL_mem hm.2 (mat_sq lt hm.1) (mat_sq ls hm.1)
  rw [prod_sq ht hs] at h
  have g : ∀ x ∈ sqT (mulT t s), x.length ≤ 2 * m + 4 := fun x hx => (h x hx).choose_spec.2
  exact ⟨g _ (by simp [sqT, sqM]), g _ (by simp [sqT, sqM]), g _ (by simp [sqT, sqM]), g _ (by simp [sqT, sqM])⟩
def domT (d : GDomino) : T4 := (p11 d.Top.length, p11 d.Bottom.length, vw d.Top, vw d.Bottom)
theorem domT_ok {d : GDomino} (h : domL d) : okT (domT d) ∧ lenT 1200 (domT d) := by
  have p1 := p11_good _ h.1.1
  have p2 := p11_good _ h.2.1
  have v1 := vw_good _ h.1.2 h.1.1
  have v2 := vw_good _ h.2.2 h.2.1
  have l1 := h.1.1
  have l2 := h.2.1
  exact ⟨⟨p11_pos _, p11_pos _, good_pos v1.1, good_pos v2.1⟩, by show (enc (p11 d.Top.length)).length ≤ _; omega, by show (enc (p11 d.Bottom.length)).length ≤ _; omega, by show (enc (vw d.Top)).length ≤ _; omega, by show (enc (vw d.Bottom)).length ≤ _; omega⟩
def foldT (ds : List GDomino) (t : T4) (ms : List Int) : T4 := ms.foldl (fun t k => mulT t (domT (ds.getD k.toNat zD))) t
theorem zD_L : domL zD := ⟨⟨by simp [zD], by simp [zD]⟩, ⟨by simp [zD], by simp [zD]⟩⟩
theorem getD_L {ds : List GDomino} (h : domsB ds = true) (k : Nat) : domL (ds.getD k zD) := by
  rw [List.getD_eq_getElem?_getD]
  cases e : ds[k]? with
  | none => exact zD_L
  | some d =>
    unfold domsB at h
    simp only [Bool.and_eq_true] at h
    exact domB_L (List.all_eq_true.1 h.2 d (List.mem_of_getElem? e))
theorem fold_fits {ds : List GDomino} (h : domsB ds = true) : ∀ (ms : List Int) (t : T4), okT t → fitsT (foldT ds t ms) = true → fitsT t = true
  | [], _, _, hf => hf
  | k :: ms, t, ht, hf => by
    have hs := domT_ok (getD_L h k.toNat)
    exact (fits_mul ht hs.1 (fold_fits h ms _ (ht.mul hs.1) hf)).1
noncomputable def resT (t : T4) : List (List Int) × Int := cond (fitsT t) (sqT t, 0) ([], 5)
theorem resT_no {ds : List GDomino} (h : domsB ds = true) {ms : List Int} {t : T4} (ht : okT t) (hf : fitsT t = false) : resT (foldT ds t ms) = ([], 5) := by
  unfold resT
  cases hq : fitsT (foldT ds t ms)
  · rfl
  · rw [fold_fits h ms t ht hq] at hf; cases hf
theorem fits_list (t : T4) : F_spec_l33Fits (sqT t) = some (fitsT t) := by
  rw [spec_fits _ (by show 9 ≤ _; decide)]
  exact congrArg some (fits_sq _ _ _ _)
theorem spec_prodloop (ds : List GDomino) (ms : List Int) (hd : domsB ds = true) (hr : rangeB ds.length ms = true) (t : T4) (ht : okT t) (hl : lenT 2404 t) :
    bnd (run (F_spec_ProductOf_L2 ds ms) (sqT t, 1)) (Out.elim (fun (s28 : (List (List Int)) × Int) => bnd (F_spec_l33Fits s28.1) fun r47 => (cond (!r47) (some (([] : (List (List Int))), 5)) (some (s28.1, 0)))) (fun (r : (List (List Int)) × Int) => some r)) = some (resT (foldT ds t (ms.drop 1))) := by
  have hlen := rangeB_len hr
  have fin : ∀ t : T4, bnd (F_spec_l33Fits (sqT t)) (fun r47 => (cond (!r47) (some (([] : (List (List Int))), (5 : Int))) (some (sqT t, 0)))) = some (resT t) := fun t => by
    rw [fits_list, bnd_some_eq]
    unfold resT
    cases fitsT t <;> rfl
  have key : ∀ (k i : Nat) (t : T4), i + k = ms.length → okT t → lenT 2404 t → bnd (run (F_spec_ProductOf_L2 ds ms) (sqT t, (i : Int))) (Out.elim (fun (s28 : (List (List Int)) × Int) => bnd (F_spec_l33Fits s28.1) fun r47 => (cond (!r47) (some (([] : (List (List Int))), 5)) (some (s28.1, 0)))) (fun (r : (List (List Int)) × Int) => some r)) = some (resT (foldT ds t (ms.drop i))) := by
    intro k
    induction k with
    | zero =>
      intro i t hi ht hl
      obtain rfl : i = ms.length := by omega
      rw [run_done (x := Out.brk (sqT t, (ms.length : Int))) (by simp [F_spec_ProductOf_L2]), List.drop_length]
      exact fin t
    | succ k ih =>
      intro i t hi ht hl
      have hlt : i < ms.length := by omega
      have hm := rangeB_mem hr (List.getElem_mem hlt)
      have hL := getD_L hd (ms[i]).toNat
      have hs := domT_ok hL
      rw [List.drop_eq_getElem_cons hlt]
      cases hf : fitsT t
      · rw [run_done (x := Out.brk (sqT t, (i : Int))) (by
          simp only [F_spec_ProductOf_L2, Int.ofNat_lt, hlt, decide_true, cond_true, fits_list, hf, bnd_some_eq, cond_false])]
        show bnd (F_spec_l33Fits (sqT t)) _ = some (resT (foldT ds t (ms[i] :: ms.drop (i + 1))))
        rw [fin t, resT_no hd ht hf]
        unfold resT
        rw [hf]; rfl
      · have l40 := fits_len.1 hf
        have hb : F_spec_ProductOf_L2 ds ms (sqT t, (i : Int)) = some (.inl (sqT (mulT t (domT (ds.getD (ms[i]).toNat zD))), ((i + 1 : Nat) : Int))) := by
          simp only [F_spec_ProductOf_L2, Int.ofNat_lt, hlt, decide_true, cond_true, fits_list, hf, bnd_some_eq, idx_nat hlt]
          rw [idx_getD zD hm.1 hm.2, bnd_some_eq, spec_sq _ hL, bnd_some_eq]
          show bnd (F_spec_l33Multiply (sqT t) (sqT (domT (ds.getD (ms[i]).toNat zD)))) _ = _
          rw [spec_prod 1200 (by omega) _ _ (mat_sq (l40.up (by omega)) (by omega)) (mat_sq hs.2 (by omega)), bnd_some_eq, prod_sq ht hs.1, w64_nat1 (by omega)]
        rw [run_next hb]
        exact ih (i + 1) _ (by omega) (ht.mul hs.1) (prod_len (m := 1200) (by omega) ht hs.1 (l40.up (by omega)) hs.2)
  have := key (ms.length - 1) 1 t (by omega) ht hl
  rw [show ((1 : Nat) : Int) = 1 from rfl] at this
  exact this
theorem impl_prodloop (ds : List GDomino) (ms : List Int) (hd : domsB ds = true) (hr : rangeB ds.length ms = true) (d : GDomino) (hdL : domL d) :
    bnd (run (F_impl_ProductOf_L1 ds (ms.drop 1)) ((sqP d).1, (sqP d).2, 0)) (Out.elim (fun (s21 : (List (List Int)) × Int × Int) => (cond (decide (s21.2.1 ≠ 0)) (some (([] : (List (List Int))), s21.2.1)) (some (s21.1, 0)))) (fun (r : (List (List Int)) × Int) => some r)) = some (resT (foldT ds (domT d) (ms.drop 1))) := by
  have hlen := rangeB_len hr
  generalize hxs : ms.drop 1 = xs
  have hxl : xs.length ≤ 400 := by rw [← hxs]; simp; omega
  have hmem : ∀ i (hi : i < xs.length), 0 ≤ xs[i] ∧ xs[i] < ds.length := fun i hi => rangeB_mem hr (by
    have : xs[i] ∈ ms.drop 1 := by rw [hxs]; exact List.getElem_mem hi
    exact List.mem_of_mem_drop this)
  have bad : ∀ (L : List (List Int)) (i : Nat), i ≤ xs.length → bnd (run (F_impl_ProductOf_L1 ds xs) (L, 5, (i : Int))) (Out.elim (fun (s21 : (List (List Int)) × Int × Int) => (cond (decide (s21.2.1 ≠ 0)) (some (([] : (List (List Int))), s21.2.1)) (some (s21.1, 0)))) (fun (r : (List (List Int)) × Int) => some r)) = some ([], 5) := by
    intro L i hi
    by_cases h : i < xs.length
    · rw [run_done (x := Out.brk (L, 5, (i : Int))) (by simp only [F_impl_ProductOf_L1, Int.ofNat_lt, h, decide_true, cond_true, idx_nat h, bnd_some_eq]; rfl)]
      rfl
    · obtain rfl : i = xs.length := by omega
      rw [run_done (x := Out.brk (L, 5, (xs.length : Int))) (by simp [F_impl_ProductOf_L1])]
      rfl
  have key : ∀ (k i : Nat) (t : T4), i + k = xs.length → okT t → fitsT t = true → bnd (run (F_impl_ProductOf_L1 ds xs) (sqT t, 0, (i : Int))) (Out.elim (fun (s21 : (List (List Int)) × Int × Int) => (cond (decide (s21.2.1 ≠ 0)) (some (([] : (List (List Int))), s21.2.1)) (some (s21.1, 0)))) (fun (r : (List (List Int)) × Int) => some r)) = some (resT (foldT ds t (xs.drop i))) := by
    intro k
    induction k with
    | zero =>
      intro i t hi ht hf
      obtain rfl : i = xs.length := by omega
      rw [run_done (x := Out.brk (sqT t, 0, (xs.length : Int))) (by simp [F_impl_ProductOf_L1]), List.drop_length]
      show _ = some (resT t)
      unfold resT
      rw [hf]; rfl
    | succ k ih =>
      intro i t hi ht hf
      have hlt : i < xs.length := by omega
      have hm := hmem i hlt
      have hL := getD_L hd (xs[i]).toNat
      have hs := domT_ok hL
      have l40 := fits_len.1 hf
      rw [List.drop_eq_getElem_cons hlt]
      show _ = some (resT (foldT ds (mulT t (domT (ds.getD (xs[i]).toNat zD))) (xs.drop (i + 1))))
      have hfd : fitD (ds.getD (xs[i]).toNat zD) = fitsT (domT (ds.getD (xs[i]).toNat zD)) := rfl
      have hb0 : F_impl_ProductOf_L1 ds xs (sqT t, 0, (i : Int)) = bnd (some (sqP (ds.getD (xs[i]).toNat zD))) fun r33 => (cond (decide (r33.2 = 0)) (bnd (F_impl_productOf (sqT t) r33.1) fun r37 => some (.inl (r37.1, r37.2, (w64 ((i : Int) + 1))))) (some (.inl (sqT t, r33.2, (w64 ((i : Int) + 1)))))) := by
        simp only [F_impl_ProductOf_L1, Int.ofNat_lt, hlt, decide_true, cond_true, idx_nat hlt, bnd_some_eq]
        rw [idx_getD zD hm.1 hm.2, bnd_some_eq, impl_sq _ hL]
        rfl
      rw [bnd_some_eq] at hb0
      unfold sqP at hb0
      rw [hfd] at hb0
      cases hfs : fitsT (domT (ds.getD (xs[i]).toNat zD))
      · rw [hfs] at hb0
        have hb : F_impl_ProductOf_L1 ds xs (sqT t, 0, (i : Int)) = some (.inl (sqT t, 5, ((i + 1 : Nat) : Int))) := by rw [hb0, w64_nat1 (by omega)]; rfl
        rw [run_next hb, bad _ (i + 1) (by omega), resT_no hd (ht.mul hs.1)]
        cases hq : fitsT (mulT t (domT (ds.getD (xs[i]).toNat zD)))
        · rfl
        · rw [(fits_mul ht hs.1 hq).2] at hfs; cases hfs
      · rw [hfs] at hb0
        have e : F_impl_productOf (sqT t) (sqL (ds.getD (xs[i]).toNat zD)) = some (resT (mulT t (domT (ds.getD (xs[i]).toNat zD)))) := by
          show F_impl_productOf (sqT t) (sqT (domT (ds.getD (xs[i]).toNat zD))) = _
          rw [impl_prod 1200 (by omega) _ _ (mat_sq (l40.up (by omega)) (by omega)) (mat_sq hs.2 (by omega))]
          unfold prodP resT
          rw [prod_sq ht hs.1]
          have : ((sqT (mulT t (domT (ds.getD (xs[i]).toNat zD)))).all fun x => decide (x.length ≤ 40)) = fitsT (mulT t (domT (ds.getD (xs[i]).toNat zD))) := fits_sq _ _ _ _
          rw [this]
        simp only [cond_true, decide_true, e, bnd_some_eq] at hb0
        rw [w64_nat1 (by omega)] at hb0
        cases hq : fitsT (mulT t (domT (ds.getD (xs[i]).toNat zD)))
        · have hb : F_impl_ProductOf_L1 ds xs (sqT t, 0, (i : Int)) = some (.inl ([], 5, ((i + 1 : Nat) : Int))) := by rw [hb0]; unfold resT; rw [hq]; rfl
          rw [run_next hb, bad _ (i + 1) (by omega), resT_no hd (ht.mul hs.1) hq]
        · have hb : F_impl_ProductOf_L1 ds xs (sqT t, 0, (i : Int)) = some (.inl (sqT (mulT t (domT (ds.getD (xs[i]).toNat zD))), 0, ((i + 1 : Nat) : Int))) := by rw [hb0]; unfold resT; rw [hq]; rfl
          rw [run_next hb]
          exact ih (i + 1) _ (by omega) (ht.mul hs.1) hq
  have hfd : fitD d = fitsT (domT d) := rfl
  unfold sqP
  rw [hfd]
  cases hf : fitsT (domT d)
  · have := bad [] 0 (Nat.zero_le _)
    rw [show ((0 : Nat) : Int) = 0 from rfl] at this
    rw [resT_no hd (domT_ok hdL).1 hf]
    exact this
  · have := key xs.length 0 (domT d) (by omega) (domT_ok hdL).1 hf
    rw [show ((0 : Nat) : Int) = 0 from rfl, List.drop_zero] at this
    exact this
theorem resT_fit (t : T4) : Med (resT t).1 ∧ Cnt.cnt (resT t).1 ≤ 1152921504606846976 := by
  unfold resT
  cases hf : fitsT t
  · exact rows_fit (Nat.zero_le _) (by simp)
  · obtain ⟨l1, l2, l3, l4⟩ := fits_len.1 hf
    have hs := sq_sml (m := 40) (by decide) l1 l2 l3 l4
    exact rows_fit hs.1 (fun x hx => (hs.2 x hx).1)
theorem ex_ProductOf (ds : List GDomino) (ms : List Int) (s0 : Sml ds) (s1 : Sml ms) : ∃ w : List (List Int) × Int, F_spec_ProductOf ds ms = some w ∧ F_impl_ProductOf ds ms = some w ∧ Med w.1 ∧ Cnt.cnt w.1 ≤ 1152921504606846976 := by
  have nil : Med ([] : List (List Int)) ∧ Cnt.cnt ([] : List (List Int)) ≤ 1152921504606846976 := rows_fit (Nat.zero_le _) (by simp)
  unfold F_spec_ProductOf F_impl_ProductOf
  rw [spec_doms ds s0, impl_doms ds s0]
  simp only [bnd_some_eq]
  cases hd : domsB ds
  · exact ⟨_, rfl, rfl, nil⟩
  have hdl := domsB_len hd
  rw [impl_range ds ms (by omega) s1.1]
  simp only [Bool.not_true, cond_false, bnd_some_eq]
  have hal : run (F_spec_ProductOf_L1 ds ms) 0 = some (cond (ms.all fun m => inB m 0 ((ds.length : Int) - 1)) (.brk (ms.length : Int)) (.ret ([], 2))) := by
    have e : w64 ((ds.length : Int) - 1) = (ds.length : Int) - 1 := w64_in (by omega) (by omega)
    exact run_allp (body := F_spec_ProductOf_L1 ds ms) ms (by have := s1.1; omega) (fun m => inB m 0 ((ds.length : Int) - 1)) (Out.ret ([], 2)) (Out.brk (ms.length : Int)) (fun i hi => by
      simp only [F_spec_ProductOf_L1, Int.ofNat_lt, hi, decide_true, cond_true, idx_nat hi, bnd_some_eq, spec_in, e]
      cases inB ms[i] 0 ((ds.length : Int) - 1) <;> rfl) (by simp [F_spec_ProductOf_L1])
  cases hr : rangeB ds.length ms
  · refine ⟨([], 2), ?_, rfl, nil⟩
    unfold rangeB at hr
    by_cases h1 : (ms.length : Int) < 1
    · rw [decide_eq_true h1]; rfl
    by_cases h2 : (400 : Int) < (ms.length : Int)
    · rw [decide_eq_false h1, decide_eq_true h2]; rfl
    rw [decide_eq_false h1, decide_eq_false h2]
    simp only [cond_false, bnd_some_eq, Out.elim, hal]
    rw [decide_eq_true (by omega : 1 ≤ ms.length), decide_eq_true (by omega : ms.length ≤ 400)] at hr
    simp only [Bool.true_and] at hr
    rw [hr]
    rfl
  · have hlen := rangeB_len hr
    have hall : (ms.all fun m => inB m 0 ((ds.length : Int) - 1)) = true := by
      unfold rangeB at hr
      simp only [Bool.and_eq_true] at hr
      exact hr.2
    rw [decide_eq_false (by omega : ¬ (ms.length : Int) < 1), decide_eq_false (by omega : ¬ (400 : Int) < (ms.length : Int))]
    simp only [cond_false, bnd_some_eq, Out.elim, hal, hall, cond_true, Bool.not_true]
    rw [idx_lit (xs := ms) (i := 0) (j := 0) (by omega) rfl]
    have hm := rangeB_mem hr (List.getElem_mem (show 0 < ms.length by omega))
    have hL := getD_L hd (ms[0]).toNat
    have hs1 := slc_from (xs := ms) (lo := 1) hlen.1
    rw [show ((1 : Nat) : Int) = 1 from rfl] at hs1
    simp only [bnd_some_eq]
    rw [idx_getD zD hm.1 hm.2]
    simp only [bnd_some_eq]
    rw [spec_sq _ hL, impl_sq _ hL, hs1]
    simp only [bnd_some_eq]
    have h1 := spec_prodloop ds ms hd hr (domT (ds.getD (ms[0]).toNat zD)) (domT_ok hL).1 ((domT_ok hL).2.up (by omega))
    have h2 := impl_prodloop ds ms hd hr (ds.getD (ms[0]).toNat zD) hL
    exact ⟨resT (foldT ds (domT (ds.getD (ms[0]).toNat zD)) (ms.drop 1)), h1, h2, resT_fit _⟩
theorem law_ProductOf (ds : List GDomino) (ms : List Int) (w0 : Wf.wf ds) (w1 : Wf.wf ms) : F_laws_FnExactProductOf ds ms = some true :=
  lawof_ProductOf ds ms w0 w1 (ex_ProductOf ds ms)
end Go.Fn
