/-
  Keys of words, and rows of keys in order. No program in sight. No condition.
-/
import Derived.Test.YtabpcmbohmodnaaDoorPMoD
namespace Go.Fn
open Go Go.Tc
/-! ### The order of texts -/
theorem toList_inj {a b : ByteArray} (h : a.toList = b.toList) : a = b := by
  rw [ByteArray.toList_eq, ByteArray.toList_eq] at h
  cases a
  cases b
  simp only [ByteArray.mk.injEq]
  exact Array.ext' h
def keyB (x : Int) : Ik .u8 := ⟨wk .u8 x⟩
def keyW (w : List Int) : ByteArray := strOf (w.map keyB)
theorem wk_digit {x : Int} (h0 : 0 ≤ x) (h9 : x ≤ 9) : wk .u8 x = x := by
  unfold wk IntKind.wrap
  rcases (by omega : x = 0 ∨ x = 1 ∨ x = 2 ∨ x = 3 ∨ x = 4 ∨ x = 5 ∨ x = 6 ∨ x = 7 ∨ x = 8 ∨ x = 9) with rfl | rfl | rfl | rfl | rfl | rfl | rfl | rfl | rfl | rfl <;> decide
theorem keyW_inj : ∀ {v w : List Int}, (∀ x ∈ v, 0 ≤ x ∧ x ≤ 9) → (∀ x ∈ w, 0 ≤ x ∧ x ≤ 9) → keyW v = keyW w → v = w := by
  have key : ∀ {v w : List Int}, (∀ x ∈ v, 0 ≤ x ∧ x ≤ 9) → (∀ x ∈ w, 0 ≤ x ∧ x ≤ 9) → ((v.map keyB).map fun x => UInt8.ofNat x.val.toNat) = ((w.map keyB).map fun x => UInt8.ofNat x.val.toNat) → v = w := by
    intro v
    induction v with
    | nil =>
      intro w _ _ h
      cases w with
      | nil => rfl
      | cons b w => simp at h
    | cons a v ih =>
      intro w hv hw h
      cases w with
      | nil => simp at h
      | cons b w =>
        simp only [List.map_cons, List.cons.injEq] at h
        have ha := hv a (by simp)
        have hb := hw b (by simp)
        have e : a = b := by
          have := h.1
          simp only [keyB, wk_digit ha.1 ha.2, wk_digit hb.1 hb.2] at this
          have h2 := congrArg UInt8.toNat this
          rw [UInt8.toNat_ofNat', UInt8.toNat_ofNat', Nat.mod_eq_of_lt (by omega), Nat.mod_eq_of_lt (by omega)] at h2
          omega
        rw [e, ih (fun x hx => hv x (by simp [hx])) (fun x hx => hw x (by simp [hx])) h.2]
  intro v w hv hw h
  refine key hv hw ?_
  unfold keyW strOf at h
  simp only [ByteArray.mk.injEq] at h
  simpa using congrArg Array.toList h
theorem run_keys {R : Type} {body : List (Ik .u8) × Int → Option ((List (Ik .u8) × Int) ⊕ Out (List (Ik .u8) × Int) R)} (w : List Int) (hn : w.length ≤ 1000000)
    (h1 : ∀ (a : List (Ik .u8)) (i : Nat) (hi : i < w.length), a.length = w.length → body (a, (i : Int)) = some (.inl (a.set i (keyB w[i]), ((i + 1 : Nat) : Int)))) (h2 : ∀ a, body (a, (w.length : Int)) = some (.inr (.brk (a, (w.length : Int))))) :
    run body (List.replicate w.length ⟨0⟩, 0) = some (.brk (w.map keyB, (w.length : Int))) := by
  have key : ∀ k, k ≤ w.length → run body (List.replicate w.length ⟨0⟩, 0) = run body ((w.take k).map keyB ++ List.replicate (w.length - k) ⟨0⟩, (k : Int)) := by
    intro k
    induction k with
    | zero => intro _; simp
    | succ k ih =>
      intro hk
      rw [ih (by omega), run_next (h1 _ k hk (by simp; omega))]
      congr 2
      have e : (w.take (k + 1)).map keyB = (w.take k).map keyB ++ [keyB w[k]] := by rw [List.take_add_one, List.getElem?_eq_getElem hk, List.map_append]; rfl
      rw [e, show w.length - k = (w.length - (k + 1)) + 1 by omega, List.replicate_succ, List.append_assoc, List.set_append_right _ _ (by simp; omega)]
      simp [Nat.min_eq_left (show k ≤ w.length by omega)]
  rw [key w.length (Nat.le_refl _), run_done (x := .brk (w.map keyB, (w.length : Int)))]
  rw [h2]
  simp
theorem impl_key (w : List Int) (hn : w.length ≤ 1000000) : F_impl_keyOf w = some (keyW w) := by
  unfold F_impl_keyOf
  rw [mke_nat (by omega), bnd_some_eq, run_keys w hn (fun a i hi ha => by
    simp only [F_impl_keyOf_L1, Int.ofNat_lt, hi, decide_true, cond_true, idx_nat hi, bnd_some_eq, Int.toNat_natCast]
    rw [idx_nat (by omega), bnd_some_eq, w64_nat1 (by omega)]
    rfl) (fun a => by simp only [F_impl_keyOf_L1, Int.lt_irrefl, decide_false, cond_false])]
  rfl
end Go.Fn
