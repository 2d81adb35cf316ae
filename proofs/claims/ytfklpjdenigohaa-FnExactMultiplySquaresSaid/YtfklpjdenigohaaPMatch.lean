/-
  Matches of the plain dominoes; the plain laws of PlainMatch and ModifiedMatch. No program in sight. No condition.
-/
import Derived.Test.YtfklpjdenigohaaPPlain
namespace Go.Tc
open Go
/-- A loop over a row from a place on, that carries a datum. -/
theorem run_rowk {α σ S X : Type} {body : S → Option (S ⊕ X)} (xs : List α) (k : Nat) (st : σ → Nat → S) (f : σ → α → σ) (I : Nat → σ → Prop)
    (h : ∀ (i : Nat) (hi : i < xs.length) (a : σ), I i a → body (st a (k + i)) = some (.inl (st (f a xs[i]) (k + (i + 1)))) ∧ I (i + 1) (f a xs[i])) (a0 : σ) (h0 : I 0 a0) :
    run body (st a0 k) = run body (st (xs.foldl f a0) (k + xs.length)) ∧ I xs.length (xs.foldl f a0) := by
  have key : ∀ m i a, i + m = xs.length → I i a → run body (st a (k + i)) = run body (st ((xs.drop i).foldl f a) (k + xs.length)) ∧ I xs.length ((xs.drop i).foldl f a) := by
    intro m
    induction m with
    | zero =>
      intro i a hi hI
      obtain rfl : i = xs.length := by omega
      rw [List.drop_length]
      exact ⟨rfl, hI⟩
    | succ m ih =>
      intro i a hi hI
      have hlt : i < xs.length := by omega
      obtain ⟨e, hI'⟩ := h i hlt a hI
      rw [run_next e, List.drop_eq_getElem_cons hlt, List.foldl_cons]
      exact ih (i + 1) _ (by omega) hI'
  have := key xs.length 0 a0 (by omega) h0
  rwa [List.drop_zero, Nat.add_zero] at this
/-- The same, that ends at the first place that is not as asked for. -/
theorem run_rowkx {α σ S X : Type} {body : S → Option (S ⊕ X)} (xs : List α) (k : Nat) (st : σ → Nat → S) (f : σ → α → σ) (p : α → Bool) (I : Nat → σ → Prop)
    (h : ∀ (i : Nat) (hi : i < xs.length) (a : σ), I i a → p xs[i] = true → body (st a (k + i)) = some (.inl (st (f a xs[i]) (k + (i + 1)))) ∧ I (i + 1) (f a xs[i])) (a0 : σ) (h0 : I 0 a0) :
    run body (st a0 k) = run body (st ((xs.takeWhile p).foldl f a0) (k + (xs.takeWhile p).length)) ∧ I (xs.takeWhile p).length ((xs.takeWhile p).foldl f a0) := by
  have hle : (xs.takeWhile p).length ≤ xs.length := (List.takeWhile_prefix p).length_le
  have hget : ∀ i (hi : i < (xs.takeWhile p).length), (xs.takeWhile p)[i] = xs[i]'(Nat.lt_of_lt_of_le hi hle) := fun i hi => (List.takeWhile_prefix p).getElem hi
  refine run_rowk (xs.takeWhile p) k st f I (fun i hi a hI => ?_) a0 h0
  rw [hget i hi]
  refine h i _ a hI ?_
  rw [← hget i hi]
  exact List.all_eq_true.1 List.all_takeWhile _ (List.getElem_mem hi)
theorem getElem_drop1 {α : Type} {xs : List α} {i : Nat} (h : i < (xs.drop 1).length) : (xs.drop 1)[i] = xs[1 + i]'(by simp at h; omega) := List.getElem_drop
theorem slc_from {α : Type} {xs : List α} {lo : Nat} (h : lo ≤ xs.length) : slc xs (lo : Int) (xs.length : Int) = some (xs.drop lo) := by
  rw [slc_ok h (Nat.le_refl _), List.take_length]
end Go.Tc
namespace Go.Fn
open Go Go.Tc
theorem impl_moved (xs : List Int) (k : Int) (h : xs.length ≤ 1048576) : F_impl_moved xs k = some (xs.map fun x => w64 (x + k)) := by
  unfold F_impl_moved
  have := (run_rowf (body := F_impl_moved_L1 xs k) xs (by omega) (fun (a : List Int) i => (a, i)) (fun a x => a ++ [w64 (x + k)]) (fun i a => a.length = i) (by
    intro i hi a hk
    refine ⟨?_, by simp [hk]⟩
    simp only [F_impl_moved_L1, Int.ofNat_lt, hi, decide_true, cond_true, idx_nat hi, bnd_some_eq]
    rw [app_ok (by simp; omega), bnd_some_eq]) [] rfl).1
  rw [foldl_snoc, List.nil_append] at this
  rw [this, run_done (x := .brk (xs.map fun x => w64 (x + k), (xs.length : Int))) (by simp [F_impl_moved_L1])]
  rfl
theorem matchW_ok {ds : List GDomino} {ms : List Int} (h : (matchW ds ms).2 = 0) : rangeB ds.length ms = true ∧ topsOf ds ms = botsOf ds ms := by
  unfold matchW at h
  cases hr : rangeB ds.length ms
  · rw [hr] at h; simp at h
  · rw [hr, cond_true] at h
    refine ⟨rfl, ?_⟩
    cases h1 : (decide (4000 < (topsOf ds ms).length) || decide (4000 < (botsOf ds ms).length))
    · rw [h1, cond_false] at h
      by_cases h2 : topsOf ds ms = botsOf ds ms
      · exact h2
      · rw [decide_eq_false h2] at h; simp at h
    · rw [h1] at h; simp at h
theorem plainP_ok {ds : List GDomino} (h : (plainP ds).2 = 0) : plainP ds = (plainL ds, 0) ∧ ds.all (leastB 7) = true ∧ ds.all nonE = true ∧ domsB (plainL ds) = true := by
  unfold plainP at h ⊢
  cases h1 : ds.all (leastB 7)
  · rw [h1] at h; simp at h
  cases h2 : ds.all nonE
  · rw [h1, h2] at h; simp at h
  cases h3 : domsB (plainL ds)
  · rw [h1, h2, h3] at h; simp at h
  · exact ⟨rfl, rfl, rfl, rfl⟩
theorem spec_plusloop (ms : List Int) (n : Int) (h : 1 ≤ ms.length) (h2 : ms.length ≤ 400) :
    run (F_spec_PlainMatch_L1 ms) ([0], 1) = some (.brk ([0] ++ (ms.drop 1).map (fun x => w64 (x + 1)), (ms.length : Int))) := by
  have hd : (ms.drop 1).length = ms.length - 1 := by simp
  have := (run_rowk (body := F_spec_PlainMatch_L1 ms) (ms.drop 1) 1 (fun (a : List Int) i => (a, (i : Int))) (fun a x => a ++ [w64 (x + 1)]) (fun i a => a.length = i + 1) (by
    intro i hi a hk
    refine ⟨?_, by simp [hk]⟩
    have hi2 : 1 + i < ms.length := by omega
    simp only [F_spec_PlainMatch_L1, Int.ofNat_lt, hi2, decide_true, cond_true, idx_nat hi2, bnd_some_eq, getElem_drop1 hi]
    rw [app_ok (by simp; omega), bnd_some_eq, w64_nat1 (by omega)]
    rfl) [0] rfl).1
  rw [foldl_snoc] at this
  rw [show (([0] : List Int), (1 : Int)) = (([0] : List Int), ((1 : Nat) : Int)) from rfl, this, hd, show 1 + (ms.length - 1) = ms.length by omega]
  exact run_done (by simp [F_spec_PlainMatch_L1])
theorem ex_PlainMatch (ds : List GDomino) (ms : List Int) (s0 : Sml ds) (s1 : Sml ms) :
    ∃ w : List Int × Int, F_spec_PlainMatch ds ms = some w ∧ F_impl_PlainMatch ds ms = some w ∧ Med w.1 ∧ Cnt.cnt w.1 ≤ 1152921504606846976 := by
  unfold F_spec_PlainMatch F_impl_PlainMatch F_impl_PlainDominoes
  rw [spec_doms ds s0, impl_doms ds s0]
  simp only [bnd_some_eq]
  cases hd : domsB ds
  · exact ⟨_, rfl, rfl, ints_fit (Nat.zero_le _)⟩
  rw [spec_plain ds hd s0, impl_plain ds hd s0]
  simp only [Bool.not_true, cond_false, bnd_some_eq]
  by_cases hc' : (plainP ds).2 ≠ 0
  · rw [decide_eq_true hc']; exact ⟨_, rfl, rfl, ints_fit (Nat.zero_le _)⟩
  have hc : (plainP ds).2 = 0 := Classical.not_not.1 hc'
  rw [decide_eq_false (fun h => h hc), spec_match ds ms hd s1.1, impl_match ds ms hd s1.1]
  simp only [cond_false, bnd_some_eq]
  by_cases hm' : (matchW ds ms).2 ≠ 0
  · rw [decide_eq_true hm']; exact ⟨_, rfl, rfl, ints_fit (Nat.zero_le _)⟩
  have hm : (matchW ds ms).2 = 0 := Classical.not_not.1 hm'
  rw [decide_eq_false (fun h => h hm)]
  obtain ⟨hr, _⟩ := matchW_ok hm
  obtain ⟨hp, _⟩ := plainP_ok hc
  have hl := rangeB_len hr
  have hdl := domsB_len hd
  rw [idx_lit (xs := ms) (i := 0) (j := 0) (by omega) rfl]
  simp only [cond_false, bnd_some_eq]
  by_cases hz' : ms[0] ≠ 0
  · rw [decide_eq_true hz']; exact ⟨_, rfl, rfl, ints_fit (Nat.zero_le _)⟩
  have hz : ms[0] = 0 := Classical.not_not.1 hz'
  rw [decide_eq_false (fun h => h hz), spec_plusloop ms 0 hl.1 hl.2, hp]
  have hs1 := slc_from (xs := ms) (lo := 1) hl.1
  rw [show ((1 : Nat) : Int) = 1 from rfl] at hs1
  have hdl1 : (ms.drop 1).length = ms.length - 1 := by simp
  simp only [cond_false, bnd_some_eq, Out.elim, hs1]
  rw [impl_moved _ 1 (by omega), bnd_some_eq, app_ok (by simp; omega), bnd_some_eq]
  unfold F_impl_size_impl_Domino
  simp only [bnd_some_eq]
  rw [impl_joined _ (by simp) (by simp; omega), bnd_some_eq, plainL_len]
  have e1 : w64 (((ds.length + 2 : Nat) : Int) - 1) = w64 ((ds.length : Int) + 1) := by congr 1; omega
  have e2 : ([[0], (ms.drop 1).map (fun x => w64 (x + 1)), [w64 (((ds.length + 2 : Nat) : Int) - 1)]] : List (List Int)).flatten = [0] ++ (ms.drop 1).map (fun x => w64 (x + 1)) ++ [w64 ((ds.length : Int) + 1)] := by
    rw [e1]; simp
  rw [e2]
  unfold F_impl_shortMatch
  have hlen : ([0] ++ (ms.drop 1).map (fun x => w64 (x + 1)) ++ [w64 ((ds.length : Int) + 1)]).length ≤ 402 := by simp; omega
  generalize ([0] ++ (ms.drop 1).map (fun x => w64 (x + 1)) ++ [w64 ((ds.length : Int) + 1)] : List Int) = L at hlen
  cases decide (400 < (L.length : Int))
  · exact ⟨(L, 0), rfl, rfl, ints_fit (by show L.length ≤ _; omega)⟩
  · exact ⟨_, rfl, rfl, ints_fit (Nat.zero_le _)⟩
theorem law_PlainMatch (ds : List GDomino) (ms : List Int) (w0 : Wf.wf ds) (w1 : Wf.wf ms) : F_laws_FnExactPlainMatch ds ms = some true :=
  lawof_PlainMatch ds ms w0 w1 (ex_PlainMatch ds ms)
/-! ### ModifiedMatch -/
theorem impl_index (xs : List Int) (x : Int) (h : xs.length ≤ 1048576) : F_slices_Index_Sint64_int64 xs x = some (match xs.findIdx? (fun y => decide (x = y)) with | none => -1 | some i => (i : Int)) := by
  unfold F_slices_Index_Sint64_int64
  refine run_find xs (by omega) (fun y => decide (x = y)) (fun i hi => ?_) (by simp [F_slices_Index_Sint64_int64_L1])
  simp only [F_slices_Index_Sint64_int64_L1, Int.ofNat_lt, hi, decide_true, cond_true, idx_nat hi, bnd_some_eq]
  by_cases e : x = xs[i]
  · simp [e]
  · simp [e]
theorem spec_minusloop (ds : List GDomino) (ms : List Int) (h : 1 ≤ ms.length) (h2 : ms.length ≤ 400) :
    ∃ k, run (F_spec_ModifiedMatch_L1 ds ms) ([0], 1) = some (.brk ([0] ++ ((ms.drop 1).takeWhile (fun x => decide (x ≠ w64 ((ds.length : Int) + 1)))).map (fun x => w64 (x - 1)), k)) := by
  have hd : (ms.drop 1).length = ms.length - 1 := by simp
  have := (run_rowkx (body := F_spec_ModifiedMatch_L1 ds ms) (ms.drop 1) 1 (fun (a : List Int) i => (a, (i : Int))) (fun a x => a ++ [w64 (x - 1)]) (fun x => decide (x ≠ w64 ((ds.length : Int) + 1))) (fun i a => a.length = i + 1) (by
    intro i hi a hk hp
    refine ⟨?_, by simp [hk]⟩
    have hi2 : 1 + i < ms.length := by omega
    rw [getElem_drop1 hi] at hp ⊢
    simp only [F_spec_ModifiedMatch_L1, Int.ofNat_lt, hi2, decide_true, cond_true, idx_nat hi2, bnd_some_eq, hp]
    rw [app_ok (by simp; omega), bnd_some_eq, w64_nat1 (by omega)]
    rfl) [0] rfl).1
  rw [foldl_snoc] at this
  rw [show (([0] : List Int), (1 : Int)) = (([0] : List Int), ((1 : Nat) : Int)) from rfl, this]
  generalize hW : (ms.drop 1).takeWhile (fun x => decide (x ≠ w64 ((ds.length : Int) + 1))) = W
  have hWl : W.length ≤ ms.length - 1 := by
    rw [← hW, ← hd]
    exact (List.takeWhile_prefix _).length_le
  by_cases he : 1 + W.length = ms.length
  · exact ⟨(ms.length : Int), run_done (by rw [he]; simp [F_spec_ModifiedMatch_L1])⟩
  · have hi2 : 1 + W.length < ms.length := by omega
    have hn : ms[1 + W.length] = w64 ((ds.length : Int) + 1) := by
      have h1 : W.length < (ms.drop 1).length := by omega
      have h3 := List.takeWhile_append_dropWhile (p := fun x => decide (x ≠ w64 ((ds.length : Int) + 1))) (l := ms.drop 1)
      rw [hW] at h3
      have h4 : (ms.drop 1)[W.length]? = ((ms.drop 1).dropWhile (fun x => decide (x ≠ w64 ((ds.length : Int) + 1))))[0]? := by
        conv => lhs; rw [← h3]
        rw [List.getElem?_append_right (Nat.le_refl _), Nat.sub_self]
      rw [List.getElem?_eq_getElem h1, getElem_drop1 h1] at h4
      have h5 := List.head?_dropWhile_not (fun x => decide (x ≠ w64 ((ds.length : Int) + 1))) (ms.drop 1)
      rw [List.head?_eq_getElem?, ← h4] at h5
      simpa using h5
    refine ⟨((1 + W.length : Nat) : Int), run_done (x := Out.brk ([0] ++ W.map (fun x => w64 (x - 1)), ((1 + W.length : Nat) : Int))) ?_⟩
    simp only [F_spec_ModifiedMatch_L1, Int.ofNat_lt, hi2, decide_true, cond_true, idx_nat hi2, bnd_some_eq, hn]
    rw [decide_eq_false (fun h => h rfl)]
    rfl
theorem starW_last (w : List Int) (hw : w ≠ []) : (starW w true).getLast? = some 9 ∧ (starW w false).getLast? = w.getLast? := by
  rcases List.eq_nil_or_concat w with h | ⟨l, x, rfl⟩
  · exact absurd h hw
  · simp [starW]
theorem flatMap_last {α : Type} (f : α → List Int) (xs : List α) (x : α) (h : f x ≠ []) : ((xs ++ [x]).flatMap f).getLast? = (f x).getLast? := by
  rw [List.flatMap_append, List.flatMap_singleton, List.getLast?_append]
  cases hl : (f x).getLast? with
  | none => rw [List.getLast?_eq_none_iff] at hl; exact absurd hl h
  | some y => rfl
/-- A match of the plain dominoes ends with the last of them, and does not begin with it. -/
theorem plain_ends {ds : List GDomino} {ms : List Int} (hl1 : 1 ≤ ds.length) (h1 : ds.all (leastB 7) = true) (h2 : ds.all nonE = true) (hr : rangeB (plainL ds).length ms = true) (he : topsOf (plainL ds) ms = botsOf (plainL ds) ms) :
    ∃ l, ms = l ++ [(ds.length : Int) + 1] ∧ ∀ x ∈ ms.head?, x ≠ (ds.length : Int) + 1 := by
  have hlen := rangeB_len hr
  have hget : ∀ m ∈ ms, m ≠ (ds.length : Int) + 1 → ∃ d ∈ ds, ((plainL ds).getD m.toNat zD = firstD d ∨ (plainL ds).getD m.toNat zD = starD d) := by
    intro m hm hne
    have hb := rangeB_mem hr hm
    rw [plainL_len] at hb
    have hlt : m.toNat < ds.length + 1 := by omega
    have hd0 : 0 < ds.length := hl1
    rw [List.getD_eq_getElem?_getD]
    by_cases h0 : m.toNat = 0
    · refine ⟨ds[0], List.getElem_mem hd0, .inl ?_⟩
      rw [h0]
      simp [plainL, List.getD_eq_getElem?_getD, hd0]
    · obtain ⟨j, hj⟩ : ∃ j, m.toNat = j + 1 := ⟨m.toNat - 1, by omega⟩
      have hjl : j < ds.length := by omega
      refine ⟨ds[j], List.getElem_mem hjl, .inr ?_⟩
      rw [hj]
      show ((firstD (ds.getD 0 zD) :: (ds.map starD ++ [lastD]))[j + 1]?).getD zD = _
      rw [List.getElem?_cons_succ, List.getElem?_append_left (by simpa using hjl), List.getElem?_map, List.getElem?_eq_getElem hjl]
      rfl
  have hlast : (plainL ds).getD (ds.length + 1) zD = lastD := by
    rw [List.getD_eq_getElem?_getD]
    simp [plainL]
  have hprop : ∀ d ∈ ds, d.Top ≠ [] ∧ d.Bottom ≠ [] ∧ ∀ x ∈ d.Bottom, x ≤ 7 := by
    intro d hd
    have a := List.all_eq_true.1 h1 d hd
    have b := List.all_eq_true.1 h2 d hd
    simp only [leastB, nonE, Bool.and_eq_true, decide_eq_true_eq] at a b
    refine ⟨fun e => b.1 (by rw [e]; rfl), fun e => b.2 (by rw [e]; rfl), fun x hx => ?_⟩
    have := List.all_eq_true.1 a.2 x hx
    simp only [inB, Bool.and_eq_true, decide_eq_true_eq] at this
    exact this.2
  rcases List.eq_nil_or_concat ms with rfl | ⟨l, m, hms⟩
  · simp at hlen
  rw [List.concat_eq_append] at hms
  subst hms
  have hml : m = (ds.length : Int) + 1 := by
    refine Classical.byContradiction fun hne => ?_
    obtain ⟨d, hd, hg⟩ := hget m (by simp) hne
    obtain ⟨p1, p2, p3⟩ := hprop d hd
    have e1 : ((plainL ds).getD m.toNat zD).Top.getLast? = some 9 ∧ ((plainL ds).getD m.toNat zD).Bottom.getLast? = d.Bottom.getLast? := by
      rcases hg with hg | hg <;> rw [hg]
      · refine ⟨?_, (starW_last _ p2).2⟩
        show (9 :: starW d.Top true).getLast? = some 9
        rw [List.getLast?_cons, (starW_last _ p1).1]; rfl
      · exact ⟨(starW_last _ p1).1, (starW_last _ p2).2⟩
    have e2 : (topsOf (plainL ds) (l ++ [m])).getLast? = some 9 := by
      unfold topsOf
      rw [flatMap_last _ _ _ (fun h => by rw [h] at e1; simp at e1), e1.1]
    have e3 : (botsOf (plainL ds) (l ++ [m])).getLast? = d.Bottom.getLast? := by
      unfold botsOf
      rw [flatMap_last _ _ _ (fun h => by
        have := e1.2
        rw [h] at this
        have h' : d.Bottom.getLast? = none := this.symm
        rw [List.getLast?_eq_none_iff] at h'
        exact p2 h'), e1.2]
    rw [he, e3] at e2
    have := p3 9 (List.mem_of_getLast? e2)
    omega
  refine ⟨l, by rw [hml], ?_⟩
  intro x hx hxe
  cases hl : l ++ [m] with
  | nil => simp at hl
  | cons y t =>
    rw [hl] at hx he
    simp only [List.head?_cons, Option.mem_def, Option.some.injEq] at hx
    have hyx : y = (ds.length : Int) + 1 := by rw [hx]; exact hxe
    have ht : y.toNat = ds.length + 1 := by omega
    unfold topsOf botsOf at he
    rw [List.flatMap_cons, List.flatMap_cons, ht, hlast] at he
    simp [lastD] at he
theorem findIdx_take {ms l : List Int} {x : Int} (hm : ms = l ++ [x]) (hh : ∀ y ∈ ms.head?, y ≠ x) :
    ∃ k, 1 ≤ k ∧ k < ms.length ∧ ms.findIdx? (fun y => decide (x = y)) = some k ∧ (ms.take k).drop 1 = (ms.drop 1).takeWhile (fun y => decide (y ≠ x)) := by
  cases ms with
  | nil => simp at hm
  | cons y t =>
    have hy : y ≠ x := hh y (by simp)
    have hxt : x ∈ t := by
      have : x ∈ y :: t := by rw [hm]; simp
      rcases List.mem_cons.1 this with h | h
      · exact absurd h.symm hy
      · exact h
    have key : ∀ t : List Int, x ∈ t → ∃ k, k < t.length ∧ t.findIdx? (fun y => decide (x = y)) = some k ∧ t.take k = t.takeWhile (fun y => decide (y ≠ x)) := by
      intro t
      induction t with
      | nil => intro h; simp at h
      | cons z t ih =>
        intro h
        by_cases e : z = x
        · refine ⟨0, by simp, ?_, ?_⟩
          · simp [List.findIdx?_cons, e]
          · simp [e]
        · rcases List.mem_cons.1 h with h | h
          · exact absurd h.symm e
          · obtain ⟨k, k1, k2, k3⟩ := ih h
            refine ⟨k + 1, by simp; omega, ?_, ?_⟩
            · rw [List.findIdx?_cons, k2]; simp [Ne.symm e]
            · rw [List.take_succ_cons, k3, List.takeWhile_cons]; simp [e]
    obtain ⟨k, k1, k2, k3⟩ := key t hxt
    refine ⟨k + 1, by omega, by simp; omega, ?_, ?_⟩
    · rw [List.findIdx?_cons, k2]; simp [Ne.symm hy]
    · rw [List.take_succ_cons, List.drop_succ_cons, List.drop_zero, k3]; rfl
theorem ex_ModifiedMatch (ds : List GDomino) (ms : List Int) (s0 : Sml ds) (s1 : Sml ms) :
    ∃ w : List Int × Int, F_spec_ModifiedMatch ds ms = some w ∧ F_impl_ModifiedMatch ds ms = some w ∧ Med w.1 ∧ Cnt.cnt w.1 ≤ 1152921504606846976 := by
  unfold F_spec_ModifiedMatch F_impl_ModifiedMatch F_impl_PlainDominoes
  rw [spec_doms ds s0, impl_doms ds s0]
  simp only [bnd_some_eq]
  cases hd : domsB ds
  · exact ⟨_, rfl, rfl, ints_fit (Nat.zero_le _)⟩
  rw [spec_plain ds hd s0, impl_plain ds hd s0]
  simp only [Bool.not_true, cond_false, bnd_some_eq]
  by_cases hc' : (plainP ds).2 ≠ 0
  · rw [decide_eq_true hc']; exact ⟨_, rfl, rfl, ints_fit (Nat.zero_le _)⟩
  have hc : (plainP ds).2 = 0 := Classical.not_not.1 hc'
  obtain ⟨hp, q1, q2, q3⟩ := plainP_ok hc
  rw [decide_eq_false (fun h => h hc), hp]
  simp only [cond_false]
  rw [spec_match (plainL ds) ms q3 s1.1, impl_match (plainL ds) ms q3 s1.1]
  simp only [bnd_some_eq]
  by_cases hm' : (matchW (plainL ds) ms).2 ≠ 0
  · rw [decide_eq_true hm']; exact ⟨_, rfl, rfl, ints_fit (Nat.zero_le _)⟩
  have hm : (matchW (plainL ds) ms).2 = 0 := Classical.not_not.1 hm'
  rw [decide_eq_false (fun h => h hm)]
  obtain ⟨hr, ht⟩ := matchW_ok hm
  have hl := rangeB_len hr
  have hdl := domsB_len hd
  have ew : w64 ((ds.length : Int) + 1) = (ds.length : Int) + 1 := w64_in (by omega) (by omega)
  obtain ⟨k, hk⟩ := spec_minusloop ds ms hl.1 hl.2
  obtain ⟨l, hml, hmh⟩ := plain_ends hdl.1 q1 q2 hr ht
  obtain ⟨j, j1, j2, j3, j4⟩ := findIdx_take hml hmh
  unfold F_impl_size_impl_Domino
  simp only [cond_false, hk, bnd_some_eq, Out.elim, plainL_len]
  rw [show w64 (((ds.length + 2 : Nat) : Int) - 1) = (ds.length : Int) + 1 by rw [w64_in (by omega) (by omega)]; omega, impl_index _ _ s1.1, j3, bnd_some_eq]
  have hs := slc_ok (xs := ms) (lo := 1) (hi := j) j1 (by omega)
  rw [show ((1 : Nat) : Int) = 1 from rfl] at hs
  simp only [hs, bnd_some_eq, j4, ew]
  have hWl : ((ms.drop 1).takeWhile (fun y => decide (y ≠ (ds.length : Int) + 1))).length ≤ 399 := by
    have := (List.takeWhile_prefix (l := ms.drop 1) (fun y => decide (y ≠ (ds.length : Int) + 1))).length_le
    simp only [List.length_drop] at this
    omega
  generalize (ms.drop 1).takeWhile (fun y => decide (y ≠ (ds.length : Int) + 1)) = W at hWl ⊢
  rw [impl_moved _ _ (by omega), bnd_some_eq, impl_joined _ (by simp) (by simp; omega), bnd_some_eq]
  unfold F_impl_shortMatch
  have e2 : ([[0], W.map (fun x => w64 (x + -1))] : List (List Int)).flatten = [0] ++ W.map (fun x => w64 (x - 1)) := by
    simp [Int.sub_eq_add_neg]
  rw [e2, decide_eq_false (by simp; omega)]
  exact ⟨_, rfl, rfl, ints_fit (by simp; omega)⟩
theorem law_ModifiedMatch (ds : List GDomino) (ms : List Int) (w0 : Wf.wf ds) (w1 : Wf.wf ms) : F_laws_FnExactModifiedMatch ds ms = some true :=
  lawof_ModifiedMatch ds ms w0 w1 (ex_ModifiedMatch ds ms)
end Go.Fn
