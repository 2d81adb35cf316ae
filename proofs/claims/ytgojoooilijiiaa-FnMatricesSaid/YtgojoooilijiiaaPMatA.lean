/-
  Products of the squares of dominoes are the squares of their words. No program in sight. No condition.
-/
import Derived.Test.YtgojoooilijiiaaPWords
namespace Go.Fn
open Go Go.Tc
theorem p11_add (a : Nat) : ∀ b : Nat, p11 (a + b) = p11 a * p11 b
  | 0 => by
    show p11 a = p11 a * 1
    rw [Int.mul_one]
  | b + 1 => by
    show p11 (a + b) * 11 = p11 a * (p11 b * 11)
    rw [p11_add a b, Int.mul_assoc]
theorem vw_from : ∀ (w : List Int) (a : Int), w.foldl (fun v x => v * 11 + (x + 1)) a = a * p11 w.length + vw w
  | [], a => by
    show a = a * 1 + 0
    omega
  | x :: l, a => by
    unfold vw
    rw [List.foldl_cons, List.foldl_cons, vw_from l, vw_from l (0 * 11 + (x + 1)), List.length_cons]
    show _ = a * (p11 l.length * 11) + _
    rw [Int.add_mul, Int.zero_mul, Int.zero_add, Int.mul_assoc, Int.mul_comm 11, Int.add_assoc]
theorem vw_app (u v : List Int) : vw (u ++ v) = vw u * p11 v.length + vw v := by
  show (u ++ v).foldl _ 0 = _
  rw [List.foldl_append, vw_from]
  rfl
def catD (d e : GDomino) : GDomino := ⟨d.Top ++ e.Top, d.Bottom ++ e.Bottom⟩
theorem catD_assoc (d e f : GDomino) : catD (catD d e) f = catD d (catD e f) := by
  unfold catD
  simp only [List.append_assoc]
theorem domT_cat (d e : GDomino) : domT (catD d e) = mulT (domT d) (domT e) := by
  unfold domT mulT catD
  simp only [List.length_append, p11_add, vw_app]
def allD (ds : List GDomino) (ms : List Int) : GDomino := ⟨topsOf ds ms, botsOf ds ms⟩
theorem allD_cons (ds : List GDomino) (k : Int) (ms : List Int) : allD ds (k :: ms) = catD (ds.getD k.toNat zD) (allD ds ms) := by
  unfold allD topsOf botsOf catD
  simp only [List.flatMap_cons]
theorem allD_app (ds : List GDomino) (ms ns : List Int) : allD ds (ms ++ ns) = catD (allD ds ms) (allD ds ns) := by
  unfold allD topsOf botsOf catD
  simp only [List.flatMap_append]
theorem catD_nil (ds : List GDomino) (d : GDomino) : catD d (allD ds []) = d := by
  unfold catD allD topsOf botsOf
  simp only [List.flatMap_nil, List.append_nil]
theorem fold_all (ds : List GDomino) : ∀ (ms : List Int) (d : GDomino), foldT ds (domT d) ms = domT (catD d (allD ds ms))
  | [], d => by
    rw [catD_nil]
    rfl
  | k :: ms, d => by
    show foldT ds (mulT (domT d) (domT (ds.getD k.toNat zD))) ms = _
    rw [← domT_cat, fold_all ds ms, allD_cons, catD_assoc]
/-! ### Words come back from their values -/
theorem vw_snoc (u : List Int) (x : Int) : vw (u ++ [x]) = vw u * 11 + (x + 1) := by
  unfold vw
  rw [List.foldl_append]
  rfl
theorem word_back : ∀ (n : Nat) (u : List Int), u.length = n → (∀ x ∈ u, 0 ≤ x ∧ x ≤ 9) → ∃ v : Nat, vw u = (v : Int) ∧ wordV v = u ∧ noZ v = true
  | 0, u, hn, _ => by
    obtain rfl := List.eq_nil_of_length_eq_zero hn
    refine ⟨0, rfl, ?_, ?_⟩
    · unfold wordV
      rw [d11_zero]
      rfl
    · unfold noZ
      rw [d11_zero]
      rfl
  | n + 1, u, hn, hu => by
    rcases snoc_cases u with rfl | ⟨ys, y, rfl⟩
    · simp at hn
    · obtain ⟨v, h1, h2, h3⟩ := word_back n ys (by simpa using hn) (fun x hx => hu x (List.mem_append_left _ hx))
      have hy := hu y (List.mem_append_right _ (List.mem_singleton.2 rfl))
      obtain ⟨t, rfl⟩ : ∃ t : Nat, y = (t : Int) := ⟨y.toNat, by omega⟩
      have hm : (v * 11 + (t + 1)) % 11 = t + 1 := by omega
      have hq : (v * 11 + (t + 1)) / 11 = v := by omega
      have hd : d11 (v * 11 + (t + 1)) = ((t + 1 : Nat) : Int) :: d11 v := by rw [d11_pos (by omega), hm, hq]
      refine ⟨v * 11 + (t + 1), ?_, ?_, ?_⟩
      · rw [vw_snoc, h1]
        omega
      · unfold wordV at h2 ⊢
        rw [hd, List.map_cons, List.reverse_cons, h2, show ((t + 1 : Nat) : Int) - 1 = (t : Int) by omega]
      · unfold noZ at h3 ⊢
        rw [hd, List.all_cons, h3, decide_eq_true (by omega)]
        rfl
theorem vw_inj {u v : List Int} (hu : ∀ x ∈ u, 0 ≤ x ∧ x ≤ 9) (hv : ∀ x ∈ v, 0 ≤ x ∧ x ≤ 9) (h : vw u = vw v) : u = v := by
  obtain ⟨a, a1, a2, _⟩ := word_back _ u rfl hu
  obtain ⟨b, b1, b2, _⟩ := word_back _ v rfl hv
  have : a = b := by omega
  rw [← a2, ← b2, this]
theorem vw_nonneg {u : List Int} (hu : ∀ x ∈ u, 0 ≤ x ∧ x ≤ 9) : 0 ≤ vw u := by
  obtain ⟨a, a1, _, _⟩ := word_back _ u rfl hu
  omega
theorem enc_inj {a b : Int} (ha : 0 ≤ a) (hb : 0 ≤ b) (h : enc a = enc b) : a = b := by
  rw [← val_enc (good_ge ha), ← val_enc (good_ge hb), h]
theorem p11_pow : ∀ n : Nat, p11 n = ((11 ^ n : Nat) : Int)
  | 0 => rfl
  | n + 1 => by
    show p11 n * 11 = _
    rw [p11_pow n, Nat.pow_succ]
    omega
theorem short40 {v : Int} (h0 : 0 ≤ v) (h : (enc v).length ≤ 40) : v < pw 40 := by
  obtain ⟨u, e, h1, _⟩ := nat_enc (n := enc v) (by rw [natB_enc]; exact decide_eq_true h)
  rw [enc_inj h0 (by omega) e]
  exact h1
theorem p11_short {n : Nat} (h : (enc (p11 n)).length ≤ 40) : n < 240 := by
  have h1 := short40 (by have := p11_pos n; omega) h
  rw [p11_pow] at h1
  have h2 := lt_pw40 h1
  by_cases hn : n < 240
  · exact hn
  · have := Nat.pow_le_pow_right (show 0 < 11 by decide) (show 240 ≤ n by omega)
    omega
/-- A domino's words are symbols, and it is not empty. -/
def symD (d : GDomino) : Prop := (∀ x ∈ d.Top, 0 ≤ x ∧ x ≤ 9) ∧ (∀ x ∈ d.Bottom, 0 ≤ x ∧ x ≤ 9) ∧ 0 < d.Top.length + d.Bottom.length
theorem fits_short {d : GDomino} (h : fitsT (domT d) = true) : d.Top.length < 240 ∧ d.Bottom.length < 240 := by
  obtain ⟨h1, h2, _, _⟩ := fits_len.1 h
  exact ⟨p11_short h1, p11_short h2⟩
theorem symD.dom {d : GDomino} (h : symD d) (h1 : d.Top.length ≤ 400) (h2 : d.Bottom.length ≤ 400) : domB d = true := by
  obtain ⟨a, b, c⟩ := h
  have w : ∀ xs : List Int, xs.length ≤ 400 → (∀ x ∈ xs, 0 ≤ x ∧ x ≤ 9) → wordB xs = true := by
    intro xs hl hx
    unfold wordB
    rw [decide_eq_true hl, Bool.true_and]
    exact List.all_eq_true.2 fun x hm => inB_iff.2 (hx x hm)
  unfold domB
  rw [w _ h1 a, w _ h2 b, decide_eq_true c]
  rfl
theorem okT_dom {d : GDomino} (h : symD d) : okT (domT d) := ⟨p11_pos _, p11_pos _, vw_nonneg h.1, vw_nonneg h.2.1⟩
theorem sqT_sml {t : T4} (h : fitsT t = true) : Sml (sqT t) := by
  obtain ⟨l1, l2, l3, l4⟩ := fits_len.1 h
  exact sq_sml (m := 40) (by decide) l1 l2 l3 l4
theorem sqT_square {t : T4} (h : fitsT t = true) : F_impl_isSquare (sqT t) = some true := by
  rw [impl_square _ (sqT_sml h)]
  have h1 : (sqT t).all natB = fitsT t := nat_sq _ _ _ _
  rw [h1, h, decide_eq_true (show (sqT t).length = 9 from rfl)]
  rfl
theorem impl_balanced {t : T4} (h : fitsT t = true) : F_impl_IsBalanced (sqT t) = some (decide (enc t.2.2.1 = enc t.2.2.2)) := by
  have ma := mat_sq (fits_len.1 h) (by decide)
  obtain ⟨l1, l2, l3, l4⟩ := fits_len.1 h
  unfold F_impl_IsBalanced
  rw [sqT_square h, bnd_some_eq, cond_true, show (6 : Int) = ((6 : Nat) : Int) from rfl, show (7 : Int) = ((7 : Nat) : Int) from rfl, idx9 ma (by omega), idx9 ma (by omega), bnd_some_eq, bnd_some_eq, impl_equal _ _ (by show (enc t.2.2.1).length ≤ _; omega), bnd_some_eq]
  rfl
theorem impl_mulSq {t s : T4} (ht : fitsT t = true) (hs : fitsT s = true) (kt : okT t) (ks : okT s) (h : fitsT (mulT t s) = true) : F_impl_MultiplySquares (sqT t) (sqT s) = some (sqT (mulT t s), 0) := by
  have ma := mat_sq (fits_len.1 ht) (by decide)
  have mb := mat_sq (fits_len.1 hs) (by decide)
  unfold F_impl_MultiplySquares
  rw [sqT_square ht, sqT_square hs]
  simp only [bnd_some_eq, Bool.not_true, cond_false]
  rw [impl_prod 40 (by omega) _ _ ma mb, bnd_some_eq]
  unfold prodP
  rw [prod_sq kt ks]
  have h1 : ((sqT (mulT t s)).all fun x => decide (x.length ≤ 40)) = fitsT (mulT t s) := fits_sq _ _ _ _
  rw [h1, h]
  rfl
theorem equal_lists {X : Type} {body : Int → Option (Int ⊕ Out Int X)} {a : List (List Int)} (h : Sml a) (hb : ∀ (i : Nat) (hi : i < a.length), body (i : Int) = some (.inl (w64 ((i : Int) + 1)))) (he : body (a.length : Int) = some (.inr (.brk (a.length : Int)))) : run body 0 = some (.brk (a.length : Int)) := by
  have := (run_rowf (body := body) a (by have := h.1; omega) (fun (_ : Unit) i => i) (fun u _ => u) (fun _ _ => True) (fun i hi _ _ => ⟨hb i hi, trivial⟩) () trivial).1
  rw [this]
  exact run_done he
theorem impl_wordsSq {d : GDomino} (hd : symD d) (h : fitsT (domT d) = true) : F_impl_WordsOfSquare (sqT (domT d)) = some (d.Top, d.Bottom, 0) := by
  have ma := mat_sq (fits_len.1 h) (by decide)
  obtain ⟨l1, l2, l3, l4⟩ := fits_len.1 h
  obtain ⟨s1, s2⟩ := fits_short h
  have hB := hd.dom (by omega) (by omega)
  obtain ⟨v, v1, v2, v3⟩ := word_back _ d.Top rfl hd.1
  obtain ⟨u, u1, u2, u3⟩ := word_back _ d.Bottom rfl hd.2.1
  have e6 : at9 (sqT (domT d)) 6 = enc (v : Int) := by rw [← v1]; rfl
  have e7 : at9 (sqT (domT d)) 7 = enc (u : Int) := by rw [← u1]; rfl
  have l3' : (enc (v : Int)).length ≤ 40 := by rw [← v1]; exact l3
  have l4' : (enc (u : Int)).length ≤ 40 := by rw [← u1]; exact l4
  unfold F_impl_WordsOfSquare
  rw [sqT_square h, show (6 : Int) = ((6 : Nat) : Int) from rfl, show (7 : Int) = ((7 : Nat) : Int) from rfl, idx9 ma (by omega), idx9 ma (by omega)]
  simp only [bnd_some_eq, Bool.not_true, cond_false]
  rw [e6, e7, impl_wordV (short40 (by omega) l3') l3' (by rw [natB_enc]; exact decide_eq_true l3'), impl_wordV (short40 (by omega) l4') l4' (by rw [natB_enc]; exact decide_eq_true l4'), v2, u2]
  simp only [bnd_some_eq, Out.elim]
  rw [impl_dom _ ⟨⟨by show d.Top.length ≤ _; omega, fun _ _ => trivial⟩, ⟨by show d.Bottom.length ≤ _; omega, fun _ _ => trivial⟩⟩]
  rw [show (⟨d.Top, d.Bottom⟩ : GDomino) = d from rfl, hB, impl_sq d (domB_L hB)]
  have hs : sqP d = (sqT (domT d), 0) := by
    have : fitD d = true := h
    unfold sqP
    rw [this]
    rfl
  rw [hs]
  have hsm := sqT_sml h
  simp only [bnd_some_eq, Bool.not_true, cond_false]
  rw [equal_lists (body := F_impl_WordsOfSquare_L1 (sqT (domT d)) (sqT (domT d), 0)) hsm (fun i hi => by
    simp only [F_impl_WordsOfSquare_L1, Int.ofNat_lt, hi, decide_true, cond_true, idx_nat hi, bnd_some_eq]
    rw [impl_equal _ _ (hsm.mem hi).1, bnd_some_eq, decide_eq_true rfl]
    rfl) (by simp [F_impl_WordsOfSquare_L1])]
  simp
  rfl
theorem impl_prodOf {ds : List GDomino} {ms : List Int} (hd : domsB ds = true) (hr : rangeB ds.length ms = true) (s0 : Sml ds) : F_impl_ProductOf ds ms = some (resT (domT (allD ds ms))) := by
  have hdl := domsB_len hd
  have hlen := rangeB_len hr
  unfold F_impl_ProductOf
  rw [impl_doms ds s0, hd, impl_range ds ms (by omega) (by omega), hr]
  simp only [Bool.not_true, cond_false, bnd_some_eq]
  rw [idx_lit (xs := ms) (i := 0) (j := 0) (by omega) rfl]
  have hm := rangeB_mem hr (List.getElem_mem (show 0 < ms.length by omega))
  have hL := getD_L hd (ms[0]).toNat
  have hs1 := slc_from (xs := ms) (lo := 1) hlen.1
  rw [show ((1 : Nat) : Int) = 1 from rfl] at hs1
  simp only [bnd_some_eq]
  rw [idx_getD zD hm.1 hm.2]
  simp only [bnd_some_eq]
  rw [impl_sq _ hL, hs1]
  simp only [bnd_some_eq]
  have h2 := impl_prodloop ds ms hd hr (ds.getD (ms[0]).toNat zD) hL
  rw [fold_all, ← allD_cons] at h2
  have hms : ms[0] :: ms.drop 1 = ms := by
    rw [← List.drop_eq_getElem_cons (show 0 < ms.length by omega), List.drop_zero]
  rw [hms] at h2
  exact h2
theorem allD_sym {ds : List GDomino} {ms : List Int} (hd : domsB ds = true) (hr : rangeB ds.length ms = true) : symD (allD ds ms) := by
  have hdl := domsB_len hd
  have hlen := rangeB_len hr
  have one : ∀ k ∈ ms, symD (ds.getD k.toNat zD) := by
    intro k hk
    have hm := rangeB_mem hr hk
    have hlt : k.toNat < ds.length := by omega
    have hmem : ds.getD k.toNat zD ∈ ds := by
      rw [List.getD_eq_getElem?_getD, List.getElem?_eq_getElem hlt]
      exact List.getElem_mem hlt
    have hb : domB (ds.getD k.toNat zD) = true := by
      have h := hd
      unfold domsB at h
      simp only [Bool.and_eq_true] at h
      exact List.all_eq_true.1 h.2 _ hmem
    obtain ⟨⟨_, a⟩, ⟨_, b⟩⟩ := domB_L hb
    refine ⟨a, b, ?_⟩
    unfold domB at hb
    simp only [Bool.and_eq_true, decide_eq_true_eq] at hb
    exact hb.2
  refine ⟨?_, ?_, ?_⟩
  · intro x hx
    obtain ⟨k, hk, hx⟩ := List.mem_flatMap.1 hx
    exact (one k hk).1 x hx
  · intro x hx
    obtain ⟨k, hk, hx⟩ := List.mem_flatMap.1 hx
    exact (one k hk).2.1 x hx
  · cases ms with
    | nil => simp at hlen
    | cons k ms =>
      rw [allD_cons]
      have := (one k (List.mem_cons_self ..)).2.2
      unfold catD
      simp only [List.length_append]
      omega
end Go.Fn
