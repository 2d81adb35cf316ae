/-
  Keys of words, and rows of keys in order. No program in sight. No condition.
-/
import Derived.Test.YtneglngdbcefgaaPMoD
namespace Go.Fn
open Go Go.Tc
/-! ### The order of texts -/
def bl (a b : ByteArray) : Bool := Op.bytesLess a.toList b.toList
theorem bLess_irr : ∀ l : List UInt8, Op.bytesLess l l = false
  | [] => rfl
  | a :: l => by simp [Op.bytesLess, bLess_irr l]
theorem bLess_trans : ∀ {a b c : List UInt8}, Op.bytesLess a b = true → Op.bytesLess b c = true → Op.bytesLess a c = true
  | _, [], _, h, _ => by simp [Op.bytesLess] at h
  | _, _ :: _, [], _, h => by simp [Op.bytesLess] at h
  | [], _ :: _, _ :: _, _, _ => rfl
  | a :: x, b :: y, c :: z, h1, h2 => by
    simp only [Op.bytesLess, Bool.or_eq_true, decide_eq_true_eq, Bool.and_eq_true, beq_iff_eq] at h1 h2 ⊢
    rcases h1 with h1 | ⟨rfl, h1⟩
    · rcases h2 with h2 | ⟨rfl, h2⟩
      · exact .inl (UInt8.lt_trans h1 h2)
      · exact .inl h1
    · rcases h2 with h2 | ⟨rfl, h2⟩
      · exact .inl h2
      · exact .inr ⟨rfl, bLess_trans h1 h2⟩
theorem bLess_tot : ∀ {a b : List UInt8}, a ≠ b → Op.bytesLess a b = true ∨ Op.bytesLess b a = true
  | [], [], h => absurd rfl h
  | [], _ :: _, _ => .inl rfl
  | _ :: _, [], _ => .inr rfl
  | a :: x, b :: y, h => by
    simp only [Op.bytesLess, Bool.or_eq_true, decide_eq_true_eq, Bool.and_eq_true, beq_iff_eq]
    by_cases e : a = b
    · subst e
      rcases bLess_tot (a := x) (b := y) (fun e => h (by rw [e])) with h' | h'
      · exact .inl (.inr ⟨rfl, h'⟩)
      · exact .inr (.inr ⟨rfl, h'⟩)
    · rcases UInt8.lt_or_lt_of_ne e with h' | h'
      · exact .inl (.inl h')
      · exact .inr (.inl h')
theorem toList_inj {a b : ByteArray} (h : a.toList = b.toList) : a = b := by
  rw [ByteArray.toList_eq, ByteArray.toList_eq] at h
  cases a
  cases b
  simp only [ByteArray.mk.injEq]
  exact Array.ext' h
theorem toList_beq (a b : ByteArray) : (a.toList == b.toList) = decide (a = b) := by
  rw [Bool.eq_iff_iff, beq_iff_eq, decide_eq_true_eq]
  exact ⟨toList_inj, fun h => by rw [h]⟩
theorem bl_irr (a : ByteArray) : bl a a = false := bLess_irr _
theorem bl_trans {a b c : ByteArray} (h : bl a b = true) (k : bl b c = true) : bl a c = true := bLess_trans h k
theorem bl_tot {a b : ByteArray} (h : a ≠ b) : bl a b = true ∨ bl b a = true := bLess_tot fun e => h (toList_inj e)
/-! ### Rows of keys in order -/
def SrtK (L : List ByteArray) : Prop := L.Pairwise fun a b => bl a b = true
def lowK (L : List ByteArray) (k : ByteArray) : Nat := (L.takeWhile fun x => bl x k).length
theorem lowK_le (L : List ByteArray) (k : ByteArray) : lowK L k ≤ L.length := (List.takeWhile_prefix _).length_le
theorem low_iff {k : ByteArray} : ∀ {L : List ByteArray}, SrtK L → ∀ (j : Nat) (hj : j < L.length), bl L[j] k = true ↔ j < lowK L k
  | [], _, j, hj => by simp at hj
  | x :: L, hs, j, hj => by
    have hs' := List.pairwise_cons.1 hs
    have ih := low_iff (k := k) (L := L) hs'.2
    unfold lowK
    rw [List.takeWhile_cons]
    by_cases hx : bl x k = true
    · rw [if_pos hx]
      cases j with
      | zero => simp [hx]
      | succ j =>
        have := ih j (by simpa using hj)
        simp only [List.getElem_cons_succ, List.length_cons]
        rw [this]
        unfold lowK
        omega
    · rw [if_neg hx]
      simp only [List.length_nil, Nat.not_lt_zero, iff_false]
      cases j with
      | zero => simpa using hx
      | succ j =>
        intro h
        exact hx (bl_trans (hs'.1 _ (List.getElem_mem (by simpa using hj))) h)
theorem low_mem {L : List ByteArray} {k : ByteArray} (hs : SrtK L) : k ∈ L ↔ ∃ h : lowK L k < L.length, L[lowK L k] = k := by
  constructor
  · intro hk
    obtain ⟨i, hi, he⟩ := List.getElem_of_mem hk
    have h1 : ¬ i < lowK L k := fun h => by
      have := (low_iff hs i hi).2 h
      rw [he, bl_irr] at this
      simp at this
    have h2 : ¬ lowK L k < i := fun h => by
      have h3 := List.pairwise_iff_getElem.1 hs (lowK L k) i (by omega) hi h
      rw [he] at h3
      have := (low_iff hs (lowK L k) (by omega)).1 h3
      omega
    have h3 : lowK L k = i := by omega
    refine ⟨by omega, ?_⟩
    simp only [h3]
    exact he
  · rintro ⟨h, e⟩
    rw [← e]
    exact List.getElem_mem h
noncomputable def addK (L : List ByteArray) (k : ByteArray) : List ByteArray := @ite _ (k ∈ L) (Classical.propDecidable _) L (L.take (lowK L k) ++ [k] ++ L.drop (lowK L k))
theorem addK_len (L : List ByteArray) (k : ByteArray) : (addK L k).length ≤ L.length + 1 := by
  unfold addK
  split
  · omega
  · simp; have := lowK_le L k; omega
theorem addK_srt {L : List ByteArray} {k : ByteArray} (hs : SrtK L) : SrtK (addK L k) := by
  unfold addK
  split
  · exact hs
  · rename_i hk
    have ht := lowK_le L k
    have hlo : ∀ x ∈ L.take (lowK L k), bl x k = true := by
      intro x hx
      obtain ⟨i, hi, rfl⟩ := List.getElem_of_mem hx
      rw [List.getElem_take]
      simp at hi
      exact (low_iff hs i (by omega)).2 (by omega)
    have hhi : ∀ x ∈ L.drop (lowK L k), bl k x = true := by
      intro x hx
      obtain ⟨i, hi, rfl⟩ := List.getElem_of_mem hx
      rw [List.getElem_drop]
      simp at hi
      have h1 : ¬ bl L[lowK L k + i] k = true := fun h => by
        have := (low_iff hs _ (by omega)).1 h
        omega
      rcases bl_tot (a := L[lowK L k + i]) (b := k) (fun e => hk (by rw [← e]; exact List.getElem_mem _)) with h | h
      · exact absurd h h1
      · exact h
    have hs' := hs
    rw [SrtK, ← List.take_append_drop (lowK L k) L, List.pairwise_append] at hs'
    rw [SrtK, List.pairwise_append, List.pairwise_append]
    refine ⟨⟨hs'.1, by simp, fun a ha b hb => ?_⟩, hs'.2.1, fun a ha b hb => ?_⟩
    · rw [List.mem_singleton.1 hb]; exact hlo a ha
    · rcases List.mem_append.1 ha with ha | ha
      · exact hs'.2.2 a ha b hb
      · rw [List.mem_singleton.1 ha]; exact hhi b hb
theorem ins_eq (L : List ByteArray) (e k : ByteArray) {t : Nat} (ht : t ≤ L.length) : (cpyAt (L ++ [e]) ((t + 1 : Nat) : Int) (((L ++ [e]).length : Nat) : Int) ((L ++ [e]).drop t)).set t k = L.take t ++ [k] ++ L.drop t := by
  have hl : (L ++ [e]).length = L.length + 1 := by simp
  rw [hl, cpyAt_eq (by omega) (by omega) (by rw [hl]; omega), Int.toNat_natCast, Int.toNat_natCast, List.length_drop, hl, show min (L.length + 1 - t) (L.length + 1 - (t + 1)) = L.length - t by omega, show t + 1 + (L.length - t) = L.length + 1 by omega, List.drop_eq_nil_of_le (i := L.length + 1) (by rw [hl]; omega), List.append_nil]
  have e1 : ((L ++ [e]).drop t).take (L.length - t) = L.drop t := by
    rw [List.drop_append_of_le_length ht, List.take_append_of_le_length (by simp), List.take_of_length_le (by simp)]
  rw [e1]
  apply List.ext_getElem?
  intro j
  rw [List.getElem?_set]
  have hlen : ((L ++ [e]).take (t + 1)).length = t + 1 := by simp; omega
  by_cases h1 : t = j
  · subst h1
    rw [if_pos rfl, if_pos (by simp; omega), List.append_assoc, List.getElem?_append_right (by simp; omega)]
    simp [Nat.min_eq_left ht]
  · rw [if_neg h1]
    by_cases h2 : j < t
    · rw [List.getElem?_append_left (by omega), List.append_assoc, List.getElem?_append_left (by simp; omega), List.getElem?_take, List.getElem?_take, if_pos (by omega), if_pos h2, List.getElem?_append_left (by omega)]
    · rw [List.getElem?_append_right (by omega), hlen, List.append_assoc, List.getElem?_append_right (by simp; omega)]
      rw [List.length_take, Nat.min_eq_left ht, show j - t = (j - (t + 1)) + 1 by omega]
      simp
theorem run_low {X R : Type} {body : Int × Int → Option ((Int × Int) ⊕ Out (Int × Int) R)} {L : List ByteArray} {k : ByteArray} (hs : SrtK L) (hn : L.length ≤ 1000000)
    (h1 : ∀ (lo hi : Nat) (h : (lo + hi) / 2 < L.length), lo < hi → body ((lo : Int), (hi : Int)) = some (.inl (if bl L[(lo + hi) / 2] k = true then ((((lo + hi) / 2 + 1 : Nat) : Int), (hi : Int)) else ((lo : Int), (((lo + hi) / 2 : Nat) : Int)))))
    (h2 : ∀ lo : Nat, body ((lo : Int), (lo : Int)) = some (.inr (.brk ((lo : Int), (lo : Int))))) :
    run body (0, (L.length : Int)) = some (.brk ((lowK L k : Int), (lowK L k : Int))) := by
  have key : ∀ (d lo hi : Nat), hi - lo ≤ d → lo ≤ lowK L k → lowK L k ≤ hi → hi ≤ L.length → run body ((lo : Int), (hi : Int)) = some (.brk ((lowK L k : Int), (lowK L k : Int))) := by
    intro d
    induction d with
    | zero =>
      intro lo hi h a b c
      have e1 : hi = lo := by omega
      have e2 : lowK L k = lo := by omega
      rw [e1, e2, run_done (h2 lo)]
    | succ d ih =>
      intro lo hi h a b c
      by_cases hlt : lo < hi
      · have hm : (lo + hi) / 2 < L.length := by omega
        have hb := low_iff (k := k) hs ((lo + hi) / 2) hm
        by_cases hc : bl L[(lo + hi) / 2] k = true
        · rw [run_next (by rw [h1 lo hi hm hlt, if_pos hc])]
          exact ih _ _ (by omega) (by have := hb.1 hc; omega) b c
        · rw [run_next (by rw [h1 lo hi hm hlt, if_neg hc])]
          have : ¬ (lo + hi) / 2 < lowK L k := fun h => hc (hb.2 h)
          exact ih _ _ (by omega) a (by omega) (by omega)
      · have e1 : hi = lo := by omega
        have e2 : lowK L k = lo := by omega
        rw [e1, e2, run_done (h2 lo)]
  exact key L.length 0 L.length (by omega) (Nat.zero_le _) (lowK_le _ _) (Nat.le_refl _)
/-! ### Keys of words -/
def keyB (x : Int) : Ik .u8 := ⟨wk .u8 x⟩
def keyW (w : List Int) : ByteArray := strOf (w.map keyB)
theorem run_keys {R : Type} {body : List (Ik .u8) × Int → Option ((List (Ik .u8) × Int) ⊕ Out (List (Ik .u8) × Int) R)} (w : List Int) (hn : w.length ≤ 1000000)
    (h1 : ∀ (a : List (Ik .u8)) (i : Nat) (hi : i < w.length), a.length = w.length → body (a, (i : Int)) = some (.inl (a.set i (keyB w[i]), ((i + 1 : Nat) : Int)))) (h2 : ∀ a, body (a, (w.length : Int)) = some (.inr (.brk (a, (w.length : Int))))) :
    run body (List.replicate w.length ⟨0⟩, 0) = some (.brk (w.map keyB, (w.length : Int))) := by
  have key : ∀ k, k ≤ w.length → run body (List.replicate w.length ⟨0⟩, 0) = run body ((w.take k).map keyB ++ List.replicate (w.length - k) ⟨0⟩, (k : Int)) := by
    intro k
    induction k with
    | zero => intro _; simp
    | succ k ih =>
      intro hk
      rw [ih (by omega), run_next (h1 _ k hk (by simp; omega))]
      congr 2
      have e : (w.take (k + 1)).map keyB = (w.take k).map keyB ++ [keyB w[k]] := by rw [List.take_add_one, List.getElem?_eq_getElem hk, List.map_append]; rfl
      rw [e, show w.length - k = (w.length - (k + 1)) + 1 by omega, List.replicate_succ, List.append_assoc, List.set_append_right _ _ (by simp; omega)]
      simp [Nat.min_eq_left (show k ≤ w.length by omega)]
  rw [key w.length (Nat.le_refl _), run_done (x := .brk (w.map keyB, (w.length : Int)))]
  rw [h2]
  simp
theorem spec_key (w : List Int) (hn : w.length ≤ 1000000) : F_spec_l10Key w = some (keyW w) := by
  unfold F_spec_l10Key
  rw [mke_nat (by omega), bnd_some_eq, run_keys w hn (fun a i hi ha => by
    simp only [F_spec_l10Key_L1, Int.ofNat_lt, hi, decide_true, cond_true, idx_nat hi, bnd_some_eq, Int.toNat_natCast]
    rw [idx_nat (by omega), bnd_some_eq, w64_nat1 (by omega)]
    rfl) (fun a => by simp only [F_spec_l10Key_L1, Int.lt_irrefl, decide_false, cond_false])]
  rfl
end Go.Fn
