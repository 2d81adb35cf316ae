/-
  What is drawn out of bytes: numbers within their bounds. No program in sight. No condition.
-/
import Derived.Test.YtlikagofgciflaaFn
import Derived.Test.YtlikagofgciflaaPure
import Derived.Test.YtlikagofgciflaaWf
namespace Go.Fn
open Go Go.Tc
def Bytes (xs : List (Ik .u8)) : Prop := xs.length ≤ 1048576 ∧ ∀ x ∈ xs, 0 ≤ x.val ∧ x.val ≤ 255
theorem bytes_of {xs : List (Ik .u8)} (h : Wf.wf xs) (hl : xs.length ≤ 1048576) : Bytes xs := by
 refine ⟨hl, fun x hx => ?_⟩
 have := h.2 x hx
 simpa [Wf.wf, IntKind.min, IntKind.max, IntKind.signed, IntKind.bits] using this
theorem kand255 (x : Int) : 0 ≤ kand .u64 x 255 ∧ kand .u64 x 255 ≤ 255 := by
 have h : (BitVec.ofInt 64 x &&& BitVec.ofInt 64 255).toNat ≤ 255 := by
  rw [BitVec.toNat_and]
  exact Nat.and_le_right
 have e : kand .u64 x 255 = (((BitVec.ofInt 64 x &&& BitVec.ofInt 64 255).toNat : Nat) : Int) := by
  unfold kand
  show IntKind.wrap .u64 (((BitVec.ofInt 64 x &&& BitVec.ofInt 64 255).toNat : Nat) : Int) = _
  generalize (BitVec.ofInt 64 x &&& BitVec.ofInt 64 255).toNat = n at h
  simp [IntKind.wrap, IntKind.bits, IntKind.signed]
  omega
 rw [e]
 omega
structure SrcOk (s : Gl00Src) (n : Int) : Prop where
 bytes : Bytes s.code
 lo : 0 ≤ s.at_
 hi : s.at_ ≤ n
theorem src_next {s : Gl00Src} {n : Int} (h : SrcOk s n) (hn : n ≤ 1099511627776) : ∃ v a sd, F_spec_l00Src_next s = some (v, (a, sd)) ∧ 0 ≤ v ∧ v ≤ 255 ∧ SrcOk ⟨s.code, a, sd⟩ (n + 1) := by
 obtain ⟨hb, h0, h1⟩ := h
 have e : s.at_ = ((s.at_.toNat : Nat) : Int) := by omega
 have ew : w64 (s.at_ + 1) = s.at_ + 1 := w64_in (by omega) (by omega)
 unfold F_spec_l00Src_next
 rw [ew]
 by_cases hlt : s.at_.toNat < s.code.length
 ·have hv := hb.2 _ (List.getElem_mem hlt)
  rw [decide_eq_true (by omega : s.at_ < (s.code.length : Int)), cond_true, e, idx_nat hlt, bnd_some_eq, bnd_some_eq]
  simp only [Out.elim]
  rw [decide_eq_true (by omega), cond_true]
  refine ⟨_, _, _, rfl, ?_, ?_, hb, by simp only; omega, by simp only; omega⟩
  ·rw [w64_in (by omega) (by omega)]; exact hv.1
  ·rw [w64_in (by omega) (by omega)]; exact hv.2
 ·rw [decide_eq_false (by omega : ¬ s.at_ < (s.code.length : Int)), cond_false, bnd_some_eq]
  simp only [Out.elim]
  rw [decide_eq_false (by omega), cond_false]
  have hk := kand255 (Int.fdiv (wk .u64 ((wk .u64 ((wk .u64 (s.seed.val * 6364136223846793005)) + (wk .u64 0))) + 1442695040888963407)) (2 ^ min (40 : Int).toNat (IntKind.bits .u64)))
  refine ⟨_, _, _, rfl, ?_, ?_, hb, by simp only; omega, by simp only; omega⟩
  ·rw [w64_in (by omega) (by omega)]; exact hk.1
  ·rw [w64_in (by omega) (by omega)]; exact hk.2
theorem nz_src {b : Int} (h : b ≠ 0) : nz b = some () := by unfold nz; rw [if_neg h]
theorem src_pick {s : Gl00Src} {n : Int} (k : Int) (h : SrcOk s n) (hn : n ≤ 1099511627776) (hk : k ≤ 200) : ∃ v a sd, F_spec_l00Src_pick s k = some (v, (a, sd)) ∧ 0 ≤ v ∧ (v < k ∨ v = 0) ∧ SrcOk ⟨s.code, a, sd⟩ (n + 1) := by
 unfold F_spec_l00Src_pick
 by_cases h1 : k ≤ 1
 ·rw [decide_eq_true h1, cond_true]
  exact ⟨_, _, _, rfl, by omega, .inr rfl, h.bytes, h.lo, by have := h.hi; simp only; omega⟩
 ·obtain ⟨v, a, sd, e, h0, h2, h3⟩ := src_next h hn
  rw [decide_eq_false h1, cond_false, e, bnd_some_eq, decide_eq_false (by omega : ¬ 200 < k), cond_false, nz_src (by omega), bnd_some_eq]
  refine ⟨_, _, _, rfl, ?_, ?_, h3⟩
  ·simp only
   rw [Int.tmod_eq_emod_of_nonneg h0]
   exact Int.emod_nonneg _ (by omega)
  ·left
   simp only
   rw [Int.tmod_eq_emod_of_nonneg h0]
   exact Int.emod_lt_of_pos _ (by omega)
theorem src_one {s : Gl00Src} {n : Int} (k : Int) (h : SrcOk s n) (hn : n ≤ 1099511627776) (hk : k ≤ 200) : ∃ b a sd, F_spec_l00Src_one s k = some (b, (a, sd)) ∧ SrcOk ⟨s.code, a, sd⟩ (n + 1) := by
 obtain ⟨v, a, sd, e, _, _, h3⟩ := src_pick k h hn hk
 unfold F_spec_l00Src_one
 rw [e, bnd_some_eq]
 exact ⟨_, _, _, rfl, h3⟩
def Let (k : Int) (w : List Int) : Prop := ∀ x ∈ w, 0 ≤ x ∧ x < k
theorem Let.mono {k l : Int} {w : List Int} (h : Let k w) (hkl : k ≤ l) : Let l w := fun x hx => ⟨(h x hx).1, by have := (h x hx).2; omega⟩
theorem SrcOk.mono {s : Gl00Src} {n n' : Int} (h : SrcOk s n) (hn : n ≤ n') : SrcOk s n' := ⟨h.bytes, h.lo, by have := h.hi; omega⟩
end Go.Fn
