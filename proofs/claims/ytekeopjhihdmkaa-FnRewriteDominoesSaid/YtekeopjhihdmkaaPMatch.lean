/-
  Matches of the plain dominoes; the plain laws of PlainMatch and ModifiedMatch. No program in sight. No condition.
-/
import Derived.Test.YtekeopjhihdmkaaPPlain
namespace Go.Tc
open Go
/-- A loop over a row from a place on, that carries a datum. -/
theorem run_rowk {α σ S X : Type} {body : S → Option (S ⊕ X)} (xs : List α) (k : Nat) (st : σ → Nat → S) (f : σ → α → σ) (I : Nat → σ → Prop)
    (h : ∀ (i : Nat) (hi : i < xs.length) (a : σ), I i a → body (st a (k + i)) = some (.inl (st (f a xs[i]) (k + (i + 1)))) ∧ I (i + 1) (f a xs[i])) (a0 : σ) (h0 : I 0 a0) :
    run body (st a0 k) = run body (st (xs.foldl f a0) (k + xs.length)) ∧ I xs.length (xs.foldl f a0) := by
  have key : ∀ m i a, i + m = xs.length → I i a → run body (st a (k + i)) = run body (st ((xs.drop i).foldl f a) (k + xs.length)) ∧ I xs.length ((xs.drop i).foldl f a) := by
    intro m
    induction m with
    | zero =>
      intro i a hi hI
      obtain rfl : i = xs.length := by omega
      rw [List.drop_length]
      exact ⟨rfl, hI⟩
    | succ m ih =>
      intro i a hi hI
      have hlt : i < xs.length := by omega
      obtain ⟨e, hI'⟩ := h i hlt a hI
      rw [run_next e, List.drop_eq_getElem_cons hlt, List.foldl_cons]
      exact ih (i + 1) _ (by omega) hI'
  have := key xs.length 0 a0 (by omega) h0
  rwa [List.drop_zero, Nat.add_zero] at this
/-- The same, that ends at the first place that is not as asked for. -/
theorem run_rowkx {α σ S X : Type} {body : S → Option (S ⊕ X)} (xs : List α) (k : Nat) (st : σ → Nat → S) (f : σ → α → σ) (p : α → Bool) (I : Nat → σ → Prop)
    (h : ∀ (i : Nat) (hi : i < xs.length) (a : σ), I i a → p xs[i] = true → body (st a (k + i)) = some (.inl (st (f a xs[i]) (k + (i + 1)))) ∧ I (i + 1) (f a xs[i])) (a0 : σ) (h0 : I 0 a0) :
    run body (st a0 k) = run body (st ((xs.takeWhile p).foldl f a0) (k + (xs.takeWhile p).length)) ∧ I (xs.takeWhile p).length ((xs.takeWhile p).foldl f a0) := by
  have hle : (xs.takeWhile p).length ≤ xs.length := (List.takeWhile_prefix p).length_le
  have hget : ∀ i (hi : i < (xs.takeWhile p).length), (xs.takeWhile p)[i] = xs[i]'(Nat.lt_of_lt_of_le hi hle) := fun i hi => (List.takeWhile_prefix p).getElem hi
  refine run_rowk (xs.takeWhile p) k st f I (fun i hi a hI => ?_) a0 h0
  rw [hget i hi]
  refine h i _ a hI ?_
  rw [← hget i hi]
  exact List.all_eq_true.1 List.all_takeWhile _ (List.getElem_mem hi)
theorem getElem_drop1 {α : Type} {xs : List α} {i : Nat} (h : i < (xs.drop 1).length) : (xs.drop 1)[i] = xs[1 + i]'(by simp at h; omega) := List.getElem_drop
theorem slc_from {α : Type} {xs : List α} {lo : Nat} (h : lo ≤ xs.length) : slc xs (lo : Int) (xs.length : Int) = some (xs.drop lo) := by
  rw [slc_ok h (Nat.le_refl _), List.take_length]
end Go.Tc
namespace Go.Fn
open Go Go.Tc
theorem impl_moved (xs : List Int) (k : Int) (h : xs.length ≤ 1048576) : F_impl_moved xs k = some (xs.map fun x => w64 (x + k)) := by
  unfold F_impl_moved
  have := (run_rowf (body := F_impl_moved_L1 xs k) xs (by omega) (fun (a : List Int) i => (a, i)) (fun a x => a ++ [w64 (x + k)]) (fun i a => a.length = i) (by
    intro i hi a hk
    refine ⟨?_, by simp [hk]⟩
    simp only [F_impl_moved_L1, Int.ofNat_lt, hi, decide_true, cond_true, idx_nat hi, bnd_some_eq]
    rw [app_ok (by simp; omega), bnd_some_eq]) [] rfl).1
  rw [foldl_snoc, List.nil_append] at this
  rw [this, run_done (x := .brk (xs.map fun x => w64 (x + k), (xs.length : Int))) (by simp [F_impl_moved_L1])]
  rfl
theorem matchW_ok {ds : List GDomino} {ms : List Int} (h : (matchW ds ms).2 = 0) : rangeB ds.length ms = true ∧ topsOf ds ms = botsOf ds ms := by
  unfold matchW at h
  cases hr : rangeB ds.length ms
  · rw [hr] at h; simp at h
  · rw [hr, cond_true] at h
    refine ⟨rfl, ?_⟩
    cases h1 : (decide (4000 < (topsOf ds ms).length) || decide (4000 < (botsOf ds ms).length))
    · rw [h1, cond_false] at h
      by_cases h2 : topsOf ds ms = botsOf ds ms
      · exact h2
      · rw [decide_eq_false h2] at h; simp at h
    · rw [h1] at h; simp at h
theorem plainP_ok {ds : List GDomino} (h : (plainP ds).2 = 0) : plainP ds = (plainL ds, 0) ∧ ds.all (leastB 7) = true ∧ ds.all nonE = true ∧ domsB (plainL ds) = true := by
  unfold plainP at h ⊢
  cases h1 : ds.all (leastB 7)
  · rw [h1] at h; simp at h
  cases h2 : ds.all nonE
  · rw [h1, h2] at h; simp at h
  cases h3 : domsB (plainL ds)
  · rw [h1, h2, h3] at h; simp at h
  · exact ⟨rfl, rfl, rfl, rfl⟩
theorem starW_last (w : List Int) (hw : w ≠ []) : (starW w true).getLast? = some 9 ∧ (starW w false).getLast? = w.getLast? := by
  rcases List.eq_nil_or_concat w with h | ⟨l, x, rfl⟩
  · exact absurd h hw
  · simp [starW]
theorem flatMap_last {α : Type} (f : α → List Int) (xs : List α) (x : α) (h : f x ≠ []) : ((xs ++ [x]).flatMap f).getLast? = (f x).getLast? := by
  rw [List.flatMap_append, List.flatMap_singleton, List.getLast?_append]
  cases hl : (f x).getLast? with
  | none => rw [List.getLast?_eq_none_iff] at hl; exact absurd hl h
  | some y => rfl
/-- A match of the plain dominoes ends with the last of them, and does not begin with it. -/
theorem plain_ends {ds : List GDomino} {ms : List Int} (hl1 : 1 ≤ ds.length) (h1 : ds.all (leastB 7) = true) (h2 : ds.all nonE = true) (hr : rangeB (plainL ds).length ms = true) (he : topsOf (plainL ds) ms = botsOf (plainL ds) ms) :
    ∃ l, ms = l ++ [(ds.length : Int) + 1] ∧ ∀ x ∈ ms.head?, x ≠ (ds.length : Int) + 1 := by
  have hlen := rangeB_len hr
  have hget : ∀ m ∈ ms, m ≠ (ds.length : Int) + 1 → ∃ d ∈ ds, ((plainL ds).getD m.toNat zD = firstD d ∨ (plainL ds).getD m.toNat zD = starD d) := by
    intro m hm hne
    have hb := rangeB_mem hr hm
    rw [plainL_len] at hb
    have hlt : m.toNat < ds.length + 1 := by omega
    have hd0 : 0 < ds.length := hl1
    rw [List.getD_eq_getElem?_getD]
    by_cases h0 : m.toNat = 0
    · refine ⟨ds[0], List.getElem_mem hd0, .inl ?_⟩
      rw [h0]
      simp [plainL, List.getD_eq_getElem?_getD, hd0]
    · obtain ⟨j, hj⟩ : ∃ j, m.toNat = j + 1 := ⟨m.toNat - 1, by omega⟩
      have hjl : j < ds.length := by omega
      refine ⟨ds[j], List.getElem_mem hjl, .inr ?_⟩
      rw [hj]
      show ((firstD (ds.getD 0 zD) :: (ds.map starD ++ [lastD]))[j + 1]?).getD zD = _
      rw [List.getElem?_cons_succ, List.getElem?_append_left (by simpa using hjl), List.getElem?_map, List.getElem?_eq_getElem hjl]
      rfl
  have hlast : (plainL ds).getD (ds.length + 1) zD = lastD := by
    rw [List.getD_eq_getElem?_getD]
    simp [plainL]
  have hprop : ∀ d ∈ ds, d.Top ≠ [] ∧ d.Bottom ≠ [] ∧ ∀ x ∈ d.Bottom, x ≤ 7 := by
    intro d hd
    have a := List.all_eq_true.1 h1 d hd
    have b := List.all_eq_true.1 h2 d hd
    simp only [leastB, nonE, Bool.and_eq_true, decide_eq_true_eq] at a b
    refine ⟨fun e => b.1 (by rw [e]; rfl), fun e => b.2 (by rw [e]; rfl), fun x hx => ?_⟩
    have := List.all_eq_true.1 a.2 x hx
    simp only [inB, Bool.and_eq_true, decide_eq_true_eq] at this
    exact this.2
  rcases List.eq_nil_or_concat ms with rfl | ⟨l, m, hms⟩
  · simp at hlen
  rw [List.concat_eq_append] at hms
  subst hms
  have hml : m = (ds.length : Int) + 1 := by
    refine Classical.byContradiction fun hne => ?_
    obtain ⟨d, hd, hg⟩ := hget m (by simp) hne
    obtain ⟨p1, p2, p3⟩ := hprop d hd
    have e1 : ((plainL ds).getD m.toNat zD).Top.getLast? = some 9 ∧ ((plainL ds).getD m.toNat zD).Bottom.getLast? = d.Bottom.getLast? := by
      rcases hg with hg | hg <;> rw [hg]
      · refine ⟨?_, (starW_last _ p2).2⟩
        show (9 :: starW d.Top true).getLast? = some 9
        rw [List.getLast?_cons, (starW_last _ p1).1]; rfl
      · exact ⟨(starW_last _ p1).1, (starW_last _ p2).2⟩
    have e2 : (topsOf (plainL ds) (l ++ [m])).getLast? = some 9 := by
      unfold topsOf
      rw [flatMap_last _ _ _ (fun h => by rw [h] at e1; simp at e1), e1.1]
    have e3 : (botsOf (plainL ds) (l ++ [m])).getLast? = d.Bottom.getLast? := by
      unfold botsOf
      rw [flatMap_last _ _ _ (fun h => by
        have := e1.2
        rw [h] at this
        have h' : d.Bottom.getLast? = none := this.symm
        rw [List.getLast?_eq_none_iff] at h'
        exact p2 h'), e1.2]
    rw [he, e3] at e2
    have := p3 9 (List.mem_of_getLast? e2)
    omega
  refine ⟨l, by rw [hml], ?_⟩
  intro x hx hxe
  cases hl : l ++ [m] with
  | nil => simp at hl
  | cons y t =>
    rw [hl] at hx he
    simp only [List.head?_cons, Option.mem_def, Option.some.injEq] at hx
    have hyx : y = (ds.length : Int) + 1 := by rw [hx]; exact hxe
    have ht : y.toNat = ds.length + 1 := by omega
    unfold topsOf botsOf at he
    rw [List.flatMap_cons, List.flatMap_cons, ht, hlast] at he
    simp [lastD] at he
theorem findIdx_take {ms l : List Int} {x : Int} (hm : ms = l ++ [x]) (hh : ∀ y ∈ ms.head?, y ≠ x) :
    ∃ k, 1 ≤ k ∧ k < ms.length ∧ ms.findIdx? (fun y => decide (x = y)) = some k ∧ (ms.take k).drop 1 = (ms.drop 1).takeWhile (fun y => decide (y ≠ x)) := by
  cases ms with
  | nil => simp at hm
  | cons y t =>
    have hy : y ≠ x := hh y (by simp)
    have hxt : x ∈ t := by
      have : x ∈ y :: t := by rw [hm]; simp
      rcases List.mem_cons.1 this with h | h
      · exact absurd h.symm hy
      · exact h
    have key : ∀ t : List Int, x ∈ t → ∃ k, k < t.length ∧ t.findIdx? (fun y => decide (x = y)) = some k ∧ t.take k = t.takeWhile (fun y => decide (y ≠ x)) := by
      intro t
      induction t with
      | nil => intro h; simp at h
      | cons z t ih =>
        intro h
        by_cases e : z = x
        · refine ⟨0, by simp, ?_, ?_⟩
          · simp [List.findIdx?_cons, e]
          · simp [e]
        · rcases List.mem_cons.1 h with h | h
          · exact absurd h.symm e
          · obtain ⟨k, k1, k2, k3⟩ := ih h
            refine ⟨k + 1, by simp; omega, ?_, ?_⟩
            · rw [List.findIdx?_cons, k2]; simp [Ne.symm e]
            · rw [List.take_succ_cons, k3, List.takeWhile_cons]; simp [e]
    obtain ⟨k, k1, k2, k3⟩ := key t hxt
    refine ⟨k + 1, by omega, by simp; omega, ?_, ?_⟩
    · rw [List.findIdx?_cons, k2]; simp [Ne.symm hy]
    · rw [List.take_succ_cons, List.drop_succ_cons, List.drop_zero, k3]; rfl
end Go.Fn
