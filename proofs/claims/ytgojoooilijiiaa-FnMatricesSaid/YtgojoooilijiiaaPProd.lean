/-
  Products of the matrices of dominoes; the plain law of ProductOf. No program in sight. No condition.
-/
import Derived.Test.YtgojoooilijiiaaPSqDom
namespace Go.Fn
open Go Go.Tc
abbrev T4 := Int × Int × Int × Int
def mulT (t s : T4) : T4 := (t.1 * s.1, t.2.1 * s.2.1, t.2.2.1 * s.1 + s.2.2.1, t.2.2.2 * s.2.1 + s.2.2.2)
noncomputable def sqT (t : T4) : List (List Int) := sqM t.1 t.2.1 t.2.2.1 t.2.2.2
noncomputable def fitsT (t : T4) : Bool := fitT t.1 t.2.1 t.2.2.1 t.2.2.2
def okT (t : T4) : Prop := 1 ≤ t.1 ∧ 1 ≤ t.2.1 ∧ 0 ≤ t.2.2.1 ∧ 0 ≤ t.2.2.2
def lenT (m : Nat) (t : T4) : Prop := (enc t.1).length ≤ m ∧ (enc t.2.1).length ≤ m ∧ (enc t.2.2.1).length ≤ m ∧ (enc t.2.2.2).length ≤ m
theorem fits_len {t : T4} : fitsT t = true ↔ lenT 40 t := by
  unfold fitsT fitT lenT
  simp only [Bool.and_eq_true, decide_eq_true_eq]
  constructor
  · intro h; exact ⟨h.1.1.1, h.1.1.2, h.1.2, h.2⟩
  · intro h; exact ⟨⟨⟨h.1, h.2.1⟩, h.2.2.1⟩, h.2.2.2⟩
theorem lenT.up {m k : Nat} {t : T4} (h : lenT m t) (hk : m ≤ k) : lenT k t := ⟨Nat.le_trans h.1 hk, Nat.le_trans h.2.1 hk, Nat.le_trans h.2.2.1 hk, Nat.le_trans h.2.2.2 hk⟩
theorem okT.mul {t s : T4} (ht : okT t) (hs : okT s) : okT (mulT t s) := by
  obtain ⟨a1, a2, a3, a4⟩ := ht
  obtain ⟨b1, b2, b3, b4⟩ := hs
  have h1 := Int.mul_le_mul a1 b1 (by omega) (by omega)
  have h2 := Int.mul_le_mul a2 b2 (by omega) (by omega)
  have h3 := Int.mul_nonneg a3 (show 0 ≤ s.1 by omega)
  have h4 := Int.mul_nonneg a4 (show 0 ≤ s.2.1 by omega)
  unfold mulT okT
  simp only []
  omega
theorem le_mul_right' {a b : Int} (ha : 0 ≤ a) (hb : 1 ≤ b) : a ≤ a * b := by
  have := Int.mul_le_mul_of_nonneg_left hb ha
  rwa [Int.mul_one] at this
theorem fits_mul {t s : T4} (ht : okT t) (hs : okT s) (h : fitsT (mulT t s) = true) : fitsT t = true ∧ fitsT s = true := by
  obtain ⟨a1, a2, a3, a4⟩ := ht
  obtain ⟨b1, b2, b3, b4⟩ := hs
  have hm := okT.mul ⟨a1, a2, a3, a4⟩ ⟨b1, b2, b3, b4⟩
  obtain ⟨c1, c2, c3, c4⟩ := hm
  rw [fits_len] at h ⊢
  rw [fits_len]
  obtain ⟨l1, l2, l3, l4⟩ := h
  have x1 := le_mul_right' (show 0 ≤ t.1 by omega) b1
  have x2 := le_mul_right' (show 0 ≤ t.2.1 by omega) b2
  have x3 := le_mul_right' a3 b1
  have x4 := le_mul_right' a4 b2
  have y1 : s.1 ≤ t.1 * s.1 := by rw [Int.mul_comm]; exact le_mul_right' (by omega) a1
  have y2 : s.2.1 ≤ t.2.1 * s.2.1 := by rw [Int.mul_comm]; exact le_mul_right' (by omega) a2
  have z3 := Int.mul_nonneg a3 (show 0 ≤ s.1 by omega)
  have z4 := Int.mul_nonneg a4 (show 0 ≤ s.2.1 by omega)
  have m1 : ∀ {u v : Int}, 0 ≤ u → u ≤ v → (enc u).length ≤ (enc v).length := fun h0 h1 => len_mono (good_ge h0) (good_ge (by omega)) h1
  refine ⟨⟨Nat.le_trans (m1 (by omega) x1) l1, Nat.le_trans (m1 (by omega) x2) l2, Nat.le_trans (m1 a3 (by show t.2.2.1 ≤ t.2.2.1 * s.1 + s.2.2.1; omega)) l3, Nat.le_trans (m1 a4 (by show t.2.2.2 ≤ t.2.2.2 * s.2.1 + s.2.2.2; omega)) l4⟩,
    ⟨Nat.le_trans (m1 (by omega) y1) l1, Nat.le_trans (m1 (by omega) y2) l2, Nat.le_trans (m1 b3 (by show s.2.2.1 ≤ t.2.2.1 * s.1 + s.2.2.1; omega)) l3, Nat.le_trans (m1 b4 (by show s.2.2.2 ≤ t.2.2.2 * s.2.1 + s.2.2.2; omega)) l4⟩⟩
theorem mat_sq {m : Nat} {t : T4} (h : lenT m t) (h1 : 1 ≤ m) : Mat m (sqT t) := by
  refine ⟨rfl, fun x hx => ?_⟩
  have e1 : (enc 1).length ≤ m := by rw [(enc_small (n := 1) (by decide)).1]; exact h1
  obtain ⟨l1, l2, l3, l4⟩ := h
  unfold sqT sqM at hx
  simp only [List.mem_cons, List.not_mem_nil, or_false] at hx
  rcases hx with rfl | rfl | rfl | rfl | rfl | rfl | rfl | rfl | rfl <;> first | exact ⟨dig_enc _, by omega⟩ | exact ⟨by simp [dig], by simp⟩
theorem prod_sq {t s : T4} (ht : okT t) (hs : okT s) : prodL (sqT t) (sqT s) = sqT (mulT t s) := by
  obtain ⟨a1, a2, a3, a4⟩ := ht
  obtain ⟨b1, b2, b3, b4⟩ := hs
  have v1 := val_enc (good_ge (show 0 ≤ t.1 by omega))
  have v2 := val_enc (good_ge (show 0 ≤ t.2.1 by omega))
  have v3 := val_enc (good_ge a3)
  have v4 := val_enc (good_ge a4)
  have u1 := val_enc (good_ge (show 0 ≤ s.1 by omega))
  have u2 := val_enc (good_ge (show 0 ≤ s.2.1 by omega))
  have u3 := val_enc (good_ge b3)
  have u4 := val_enc (good_ge b4)
  have o1 := val_enc (enc_small (n := 1) (by decide)).2
  simp [prodL, List.range_succ, ent, at9, sqT, sqM, mulT, v1, v2, v3, v4, u1, u2, u3, u4, o1, val_nil, enc_zero]
def domT (d : GDomino) : T4 := (p11 d.Top.length, p11 d.Bottom.length, vw d.Top, vw d.Bottom)
theorem domT_ok {d : GDomino} (h : domL d) : okT (domT d) ∧ lenT 1200 (domT d) := by
  have p1 := p11_good _ h.1.1
  have p2 := p11_good _ h.2.1
  have v1 := vw_good _ h.1.2 h.1.1
  have v2 := vw_good _ h.2.2 h.2.1
  have l1 := h.1.1
  have l2 := h.2.1
  exact ⟨⟨p11_pos _, p11_pos _, good_pos v1.1, good_pos v2.1⟩, by show (enc (p11 d.Top.length)).length ≤ _; omega, by show (enc (p11 d.Bottom.length)).length ≤ _; omega, by show (enc (vw d.Top)).length ≤ _; omega, by show (enc (vw d.Bottom)).length ≤ _; omega⟩
def foldT (ds : List GDomino) (t : T4) (ms : List Int) : T4 := ms.foldl (fun t k => mulT t (domT (ds.getD k.toNat zD))) t
theorem zD_L : domL zD := ⟨⟨by simp [zD], by simp [zD]⟩, ⟨by simp [zD], by simp [zD]⟩⟩
theorem getD_L {ds : List GDomino} (h : domsB ds = true) (k : Nat) : domL (ds.getD k zD) := by
  rw [List.getD_eq_getElem?_getD]
  cases e : ds[k]? with
  | none => exact zD_L
  | some d =>
    unfold domsB at h
    simp only [Bool.and_eq_true] at h
    exact domB_L (List.all_eq_true.1 h.2 d (List.mem_of_getElem? e))
theorem fold_fits {ds : List GDomino} (h : domsB ds = true) : ∀ (ms : List Int) (t : T4), okT t → fitsT (foldT ds t ms) = true → fitsT t = true
  | [], _, _, hf => hf
  | k :: ms, t, ht, hf => by
    have hs := domT_ok (getD_L h k.toNat)
    exact (fits_mul ht hs.1 (fold_fits h ms _ (ht.mul hs.1) hf)).1
noncomputable def resT (t : T4) : List (List Int) × Int := cond (fitsT t) (sqT t, 0) ([], 5)
theorem resT_no {ds : List GDomino} (h : domsB ds = true) {ms : List Int} {t : T4} (ht : okT t) (hf : fitsT t = false) : resT (foldT ds t ms) = ([], 5) := by
  unfold resT
  cases hq : fitsT (foldT ds t ms)
  · rfl
  · rw [fold_fits h ms t ht hq] at hf; cases hf
theorem impl_prodloop (ds : List GDomino) (ms : List Int) (hd : domsB ds = true) (hr : rangeB ds.length ms = true) (d : GDomino) (hdL : domL d) :
    bnd (run (F_impl_ProductOf_L1 ds (ms.drop 1)) ((sqP d).1, (sqP d).2, 0)) (Out.elim (fun (s21 : (List (List Int)) × Int × Int) => (cond (decide (s21.2.1 ≠ 0)) (some (([] : (List (List Int))), s21.2.1)) (some (s21.1, 0)))) (fun (r : (List (List Int)) × Int) => some r)) = some (resT (foldT ds (domT d) (ms.drop 1))) := by
  have hlen := rangeB_len hr
  generalize hxs : ms.drop 1 = xs
  have hxl : xs.length ≤ 400 := by rw [← hxs]; simp; omega
  have hmem : ∀ i (hi : i < xs.length), 0 ≤ xs[i] ∧ xs[i] < ds.length := fun i hi => rangeB_mem hr (by
    have : xs[i] ∈ ms.drop 1 := by rw [hxs]; exact List.getElem_mem hi
    exact List.mem_of_mem_drop this)
  have bad : ∀ (L : List (List Int)) (i : Nat), i ≤ xs.length → bnd (run (F_impl_ProductOf_L1 ds xs) (L, 5, (i : Int))) (Out.elim (fun (s21 : (List (List Int)) × Int × Int) => (cond (decide (s21.2.1 ≠ 0)) (some (([] : (List (List Int))), s21.2.1)) (some (s21.1, 0)))) (fun (r : (List (List Int)) × Int) => some r)) = some ([], 5) := by
    intro L i hi
    by_cases h : i < xs.length
    · rw [run_done (x := Out.brk (L, 5, (i : Int))) (by simp only [F_impl_ProductOf_L1, Int.ofNat_lt, h, decide_true, cond_true, idx_nat h, bnd_some_eq]; rfl)]
      rfl
    · obtain rfl : i = xs.length := by omega
      rw [run_done (x := Out.brk (L, 5, (xs.length : Int))) (by simp [F_impl_ProductOf_L1])]
      rfl
  have key : ∀ (k i : Nat) (t : T4), i + k = xs.length → okT t → fitsT t = true → bnd (run (F_impl_ProductOf_L1 ds xs) (sqT t, 0, (i : Int))) (Out.elim (fun (s21 : (List (List Int)) × Int × Int) => (cond (decide (s21.2.1 ≠ 0)) (some (([] : (List (List Int))), s21.2.1)) (some (s21.1, 0)))) (fun (r : (List (List Int)) × Int) => some r)) = some (resT (foldT ds t (xs.drop i))) := by
    intro k
    induction k with
    | zero =>
      intro i t hi ht hf
      obtain rfl : i = xs.length := by omega
      rw [run_done (x := Out.brk (sqT t, 0, (xs.length : Int))) (by simp [F_impl_ProductOf_L1]), List.drop_length]
      show _ = some (resT t)
      unfold resT
      rw [hf]; rfl
    | succ k ih =>
      intro i t hi ht hf
      have hlt : i < xs.length := by omega
      have hm := hmem i hlt
      have hL := getD_L hd (xs[i]).toNat
      have hs := domT_ok hL
      have l40 := fits_len.1 hf
      rw [List.drop_eq_getElem_cons hlt]
      show _ = some (resT (foldT ds (mulT t (domT (ds.getD (xs[i]).toNat zD))) (xs.drop (i + 1))))
      have hfd : fitD (ds.getD (xs[i]).toNat zD) = fitsT (domT (ds.getD (xs[i]).toNat zD)) := rfl
      have hb0 : F_impl_ProductOf_L1 ds xs (sqT t, 0, (i : Int)) = bnd (some (sqP (ds.getD (xs[i]).toNat zD))) fun r33 => (cond (decide (r33.2 = 0)) (bnd (F_impl_productOf (sqT t) r33.1) fun r37 => some (.inl (r37.1, r37.2, (w64 ((i : Int) + 1))))) (some (.inl (sqT t, r33.2, (w64 ((i : Int) + 1)))))) := by
        simp only [F_impl_ProductOf_L1, Int.ofNat_lt, hlt, decide_true, cond_true, idx_nat hlt, bnd_some_eq]
        rw [idx_getD zD hm.1 hm.2, bnd_some_eq, impl_sq _ hL]
        rfl
      rw [bnd_some_eq] at hb0
      unfold sqP at hb0
      rw [hfd] at hb0
      cases hfs : fitsT (domT (ds.getD (xs[i]).toNat zD))
      · rw [hfs] at hb0
        have hb : F_impl_ProductOf_L1 ds xs (sqT t, 0, (i : Int)) = some (.inl (sqT t, 5, ((i + 1 : Nat) : Int))) := by rw [hb0, w64_nat1 (by omega)]; rfl
        rw [run_next hb, bad _ (i + 1) (by omega), resT_no hd (ht.mul hs.1)]
        cases hq : fitsT (mulT t (domT (ds.getD (xs[i]).toNat zD)))
        · rfl
        · rw [(fits_mul ht hs.1 hq).2] at hfs; cases hfs
      · rw [hfs] at hb0
        have e : F_impl_productOf (sqT t) (sqL (ds.getD (xs[i]).toNat zD)) = some (resT (mulT t (domT (ds.getD (xs[i]).toNat zD)))) := by
          show F_impl_productOf (sqT t) (sqT (domT (ds.getD (xs[i]).toNat zD))) = _
          rw [impl_prod 1200 (by omega) _ _ (mat_sq (l40.up (by omega)) (by omega)) (mat_sq hs.2 (by omega))]
          unfold prodP resT
          rw [prod_sq ht hs.1]
          have : ((sqT (mulT t (domT (ds.getD (xs[i]).toNat zD)))).all fun x => decide (x.length ≤ 40)) = fitsT (mulT t (domT (ds.getD (xs[i]).toNat zD))) := fits_sq _ _ _ _
          rw [this]
        simp only [cond_true, decide_true, e, bnd_some_eq] at hb0
        rw [w64_nat1 (by omega)] at hb0
        cases hq : fitsT (mulT t (domT (ds.getD (xs[i]).toNat zD)))
        · have hb : F_impl_ProductOf_L1 ds xs (sqT t, 0, (i : Int)) = some (.inl ([], 5, ((i + 1 : Nat) : Int))) := by rw [hb0]; unfold resT; rw [hq]; rfl
          rw [run_next hb, bad _ (i + 1) (by omega), resT_no hd (ht.mul hs.1) hq]
        · have hb : F_impl_ProductOf_L1 ds xs (sqT t, 0, (i : Int)) = some (.inl (sqT (mulT t (domT (ds.getD (xs[i]).toNat zD))), 0, ((i + 1 : Nat) : Int))) := by rw [hb0]; unfold resT; rw [hq]; rfl
          rw [run_next hb]
          exact ih (i + 1) _ (by omega) (ht.mul hs.1) hq
  have hfd : fitD d = fitsT (domT d) := rfl
  unfold sqP
  rw [hfd]
  cases hf : fitsT (domT d)
  · have := bad [] 0 (Nat.zero_le _)
    rw [show ((0 : Nat) : Int) = 0 from rfl] at this
    rw [resT_no hd (domT_ok hdL).1 hf]
    exact this
  · have := key xs.length 0 (domT d) (by omega) (domT_ok hdL).1 hf
    rw [show ((0 : Nat) : Int) = 0 from rfl, List.drop_zero] at this
    exact this
end Go.Fn
