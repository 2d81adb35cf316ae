/-
  Machines with two symbols; the plain laws of BinaryMachine and BinaryConfig. No program in sight. No condition.
-/
import Derived.Test.YtceimgjcikkadaaPFold
namespace Go.Fn
open Go Go.Tc
def bitsN (s : Nat) : Nat := if s = 2 then 1 else if s ≤ 4 then 2 else 3
theorem bitsN_in {s : Nat} : 1 ≤ bitsN s ∧ bitsN s ≤ 3 := by
  unfold bitsN
  split
  · omega
  · split <;> omega
theorem nneg_ok {b : Int} (h : 0 ≤ b) : nneg b = some () := by
  unfold nneg
  rw [if_pos h]
theorem bits_run {body : Int → Option (Int ⊕ Out Int Int)} {S : Int} {s : Nat} (hs : S = s) (b1 : 2 ≤ s) (b2 : s ≤ 6) (hb : ∀ z : Int, body z = bnd (nneg z) fun _ => (cond (decide ((w64 (1 * 2 ^ min (z : Int).toNat 64)) < S)) (some (.inl (w64 (z + 1)))) (some (.inr (.brk z))))) : run body 1 = some (.brk ((bitsN s : Nat) : Int)) := by
  have h1 : ∀ z : Nat, z ≤ 3 → body (z : Int) = cond (decide (w64 (1 * 2 ^ z) < S)) (some (.inl ((z + 1 : Nat) : Int))) (some (.inr (.brk (z : Int)))) := by
    intro z hz
    rw [hb, nneg_ok (by omega), bnd_some_eq, w64_nat1 (by omega), Int.toNat_natCast, show min z 64 = z by omega]
  have p1 : w64 (1 * 2 ^ 1) = 2 := by decide
  have p2 : w64 (1 * 2 ^ 2) = 4 := by decide
  have p3 : w64 (1 * 2 ^ 3) = 8 := by decide
  have g1 := h1 1 (by omega)
  have g2 := h1 2 (by omega)
  have g3 := h1 3 (by omega)
  rw [p1] at g1
  rw [p2] at g2
  rw [p3] at g3
  rw [show (1 : Int) = ((1 : Nat) : Int) from rfl]
  unfold bitsN
  by_cases c1 : s = 2
  · rw [if_pos c1, run_done (by rw [g1, decide_eq_false (by omega)]; rfl)]
  · rw [if_neg c1, run_next (by rw [g1, decide_eq_true (by omega)]; rfl)]
    by_cases c2 : s ≤ 4
    · rw [if_pos c2, run_done (by rw [g2, decide_eq_false (by omega)]; rfl)]
    · rw [if_neg c2, run_next (by rw [g2, decide_eq_true (by omega)]; rfl), run_done (by rw [g3, decide_eq_false (by omega)]; rfl)]
theorem impl_bits {m : GMachine} {s q : Nat} (M : MaI m s q) : F_impl_bitsOf m = some ((bitsN s : Nat) : Int) := by
  unfold F_impl_bitsOf
  rw [bits_run (body := F_impl_bitsOf_L1 m) M.hs M.b1 M.b2 (fun z => rfl)]
  rfl
theorem spec_bits {m : GMachine} {s q : Nat} (M : MaI m s q) : F_spec_l13Bits m.Symbols = some ((bitsN s : Nat) : Int) := by
  unfold F_spec_l13Bits
  rw [bits_run (body := F_spec_l13Bits_L1 m.Symbols) M.hs M.b1 M.b2 (fun z => rfl)]
  rfl
def bitZ (w : Int) (B j : Nat) : Int := iand (Int.fdiv w (2 ^ min (B - 1 - j) 64)) 1
theorem impl_bit (w : Int) {B j : Nat} (h : j < B) (hB : B ≤ 3) : F_impl_bitAt w (B : Int) (j : Int) = some (bitZ w B j) := by
  unfold F_impl_bitAt bitZ
  have e : w64 ((w64 ((B : Int) - 1)) - (j : Int)) = ((B - 1 - j : Nat) : Int) := by
    rw [w64_in (n := (B : Int) - 1) (by omega) (by omega), w64_in (by omega) (by omega)]
    omega
  rw [e, nneg_ok (by omega), bnd_some_eq, Int.toNat_natCast]
theorem spec_bit (w : Int) {B j : Nat} (h : j < B) (hB : B ≤ 3) : F_spec_l13Bit w (B : Int) (j : Int) = some (bitZ w B j) := impl_bit w h hB
def binA (m : GMachine) (s B : Nat) (p : GbitPlace) (v : Nat) : Option (Int × Int × GbitPlace) :=
  if p.kind = 0 then
    (if p.b.toNat + 1 < B then some ((v : Int), 1, ⟨0, p.a, p.b + 1, 2 * p.c + v⟩)
    else if s ≤ 2 * p.c.toNat + v then none
    else if m.Rules.getD (p.a.toNat * s + (2 * p.c.toNat + v)) noR = noR then none
    else if B = 1 then some ((m.Rules.getD (p.a.toNat * s + (2 * p.c.toNat + v)) noR).Write, (m.Rules.getD (p.a.toNat * s + (2 * p.c.toNat + v)) noR).Move, ⟨0, (m.Rules.getD (p.a.toNat * s + (2 * p.c.toNat + v)) noR).Next, 0, 0⟩)
    else some (bitZ (m.Rules.getD (p.a.toNat * s + (2 * p.c.toNat + v)) noR).Write B (B - 1), -1, ⟨1, ((p.a.toNat * s + (2 * p.c.toNat + v) : Nat) : Int), ((B - 2 : Nat) : Int), 0⟩))
  else if p.kind = 1 then
    (if 0 < p.b then some (bitZ (m.Rules.getD p.a.toNat noR).Write B p.b.toNat, -1, ⟨1, p.a, p.b - 1, 0⟩)
    else some (bitZ (m.Rules.getD p.a.toNat noR).Write B p.b.toNat, (m.Rules.getD p.a.toNat noR).Move, ⟨2, p.a, ((B - 1 : Nat) : Int), 0⟩))
  else
    (if p.b = 1 then some ((v : Int), (m.Rules.getD p.a.toNat noR).Move, ⟨0, (m.Rules.getD p.a.toNat noR).Next, 0, 0⟩)
    else some ((v : Int), (m.Rules.getD p.a.toNat noR).Move, ⟨2, p.a, p.b - 1, 0⟩))
def binV (m : GMachine) (Q B : Nat) (p : GbitPlace) : Prop :=
  (∃ a b c : Nat, p = ⟨0, a, b, c⟩ ∧ a < Q ∧ b < B ∧ c ≤ 3 ∧ (b = 0 → c = 0) ∧ (b = 1 → c ≤ 1)) ∨
  (∃ a b : Nat, p = ⟨1, a, b, 0⟩ ∧ a < m.Rules.length ∧ m.Rules.getD a noR ≠ noR ∧ b + 1 < B) ∨
  (∃ a b : Nat, p = ⟨2, a, b, 0⟩ ∧ a < m.Rules.length ∧ m.Rules.getD a noR ≠ noR ∧ 1 ≤ b ∧ b < B)
def binE (p : GbitPlace) : List Int := if p.kind = 0 then [p.kind, p.a, p.b, p.c] else [p.kind, p.a, p.b]
theorem rule_mem {m : GMachine} {a : Nat} (h : a < m.Rules.length) : m.Rules.getD a noR ∈ m.Rules := by
  rw [List.getD_eq_getElem?_getD, List.getElem?_eq_getElem h]
  exact List.getElem_mem _
theorem rule_at {m : GMachine} {a : Nat} (h : a < m.Rules.length) : idx m.Rules (a : Int) = some (m.Rules.getD a noR) := by
  rw [idx_nat h, List.getD_eq_getElem?_getD, List.getElem?_eq_getElem h]
  rfl
theorem binV_start {m : GMachine} {Q B : Nat} (hB : 1 ≤ B) {x : Int} (h : 0 ≤ x ∧ x < Q) : binV m Q B ⟨0, x, 0, 0⟩ := .inl ⟨x.toNat, 0, 0, by rw [show ((x.toNat : Nat) : Int) = x by omega]; rfl, by omega, by omega, by omega, fun _ => rfl, fun _ => by omega⟩
theorem bin_act {m : GMachine} {s q : Nat} (M : MaI m s q) : ActOk (binA m s (bitsN s)) 2 (binV m q (bitsN s)) := by
  refine ⟨fun p v w mv x hp hv h => ?_⟩
  obtain ⟨hB1, hB3⟩ := @bitsN_in s
  rcases hp with ⟨a, b, c, rfl, ha, hb, hc, hc0, hc1⟩ | ⟨a, b, rfl, ha, hn, hb⟩ | ⟨a, b, rfl, ha, hn, hb1, hb2⟩
  · simp only [binA, if_true, Int.toNat_natCast] at h
    split at h
    · simp only [Option.some.injEq, Prod.mk.injEq] at h
      obtain ⟨_, _, rfl⟩ := h
      refine .inl ⟨a, b + 1, 2 * c + v, by congr 1, ha, by omega, ?_, by omega, ?_⟩
      · by_cases hb0 : b = 0
        · have := hc0 hb0; omega
        · have := hc1 (by omega); omega
      · intro e
        have := hc0 (by omega)
        omega
    · split at h
      · cases h
      · rename_i hs
        obtain ⟨_, hmem, _, hlt⟩ := rule_idx M ha (show 2 * c + v < s by omega)
        split at h
        · cases h
        · rename_i hn
          obtain ⟨w1, w2, w3⟩ := rule_in M hmem hn
          split at h
          · simp only [Option.some.injEq, Prod.mk.injEq] at h
            obtain ⟨_, _, rfl⟩ := h
            exact binV_start hB1 w3
          · simp only [Option.some.injEq, Prod.mk.injEq] at h
            obtain ⟨_, _, rfl⟩ := h
            exact .inr (.inl ⟨_, _, rfl, hlt, hn, by omega⟩)
  · simp only [binA, if_neg (show ¬ (1 : Int) = 0 by decide), if_true] at h
    split at h
    · simp only [Option.some.injEq, Prod.mk.injEq] at h
      obtain ⟨_, _, rfl⟩ := h
      exact .inr (.inl ⟨a, b - 1, by congr 1; omega, ha, hn, by omega⟩)
    · simp only [Option.some.injEq, Prod.mk.injEq] at h
      obtain ⟨_, _, rfl⟩ := h
      exact .inr (.inr ⟨a, bitsN s - 1, rfl, ha, hn, by omega, by omega⟩)
  · simp only [binA, if_neg (show ¬ (2 : Int) = 0 by decide), if_neg (show ¬ (2 : Int) = 1 by decide), Int.toNat_natCast] at h
    obtain ⟨w1, w2, w3⟩ := rule_in M (rule_mem ha) hn
    split at h
    · simp only [Option.some.injEq, Prod.mk.injEq] at h
      obtain ⟨_, _, rfl⟩ := h
      exact binV_start hB1 w3
    · rename_i hne
      simp only [Option.some.injEq, Prod.mk.injEq] at h
      obtain ⟨_, _, rfl⟩ := h
      exact .inr (.inr ⟨a, b - 1, by congr 1; omega, ha, hn, by omega, by omega⟩)
/-! ### The program's -/
theorem bin_at {m : GMachine} {s q : Nat} (M : MaI m s q) : AtOk (fun p v => F_impl_binary_1 p v m ((bitsN s : Nat) : Int)) (fun a => a.none) (fun a => a.write) (fun a => a.move) (fun a => (⟨a.next_kind, a.next_a, a.next_b, a.next_c⟩ : GbitPlace)) (binA m s (bitsN s)) 2 (binV m q (bitsN s)) := by
  intro p v hp hv
  obtain ⟨hB1, hB3⟩ := @bitsN_in s
  have b2 := M.b2
  generalize hB : bitsN s = B at *
  have eB1 : w64 ((B : Int) - 1) = ((B - 1 : Nat) : Int) := by rw [w64_in (by omega) (by omega)]; omega
  rcases hp with ⟨a, b, c, rfl, ha, hb, hc, hc0, hc1⟩ | ⟨a, b, rfl, ha, hn, hb⟩ | ⟨a, b, rfl, ha, hn, hb1, hb2⟩
  · have ey : w64 ((w64 (2 * (c : Int))) + (v : Int)) = ((2 * c + v : Nat) : Int) := by
      rw [w64_in (n := 2 * (c : Int)) (by omega) (by omega), w64_in (by omega) (by omega)]
      omega
    have k0 : decide ((0 : Int) = 0) = true := rfl
    simp only [F_impl_binary_1, F_impl_readBit, binA, if_true, Int.toNat_natCast, k0, decide_true, cond_true, eB1, ey]
    by_cases h1 : b + 1 < B
    · rw [if_pos h1, decide_eq_true (by omega : (b : Int) < ((B - 1 : Nat) : Int)), w64_nat1 (by omega)]
      refine ⟨_, rfl, ?_⟩
      simp only [Bool.false_eq_true, if_false]
      congr 1
    · rw [if_neg h1, decide_eq_false (by omega : ¬ (b : Int) < ((B - 1 : Nat) : Int)), M.hs]
      simp only [cond_false]
      by_cases h2 : s ≤ 2 * c + v
      · rw [if_pos h2, decide_eq_true (by omega : (s : Int) ≤ ((2 * c + v : Nat) : Int))]
        exact ⟨_, rfl, rfl⟩
      · rw [if_neg h2, decide_eq_false (by omega : ¬ (s : Int) ≤ ((2 * c + v : Nat) : Int))]
        obtain ⟨hidx, hmem, hat, hlt⟩ := rule_idx M ha (show 2 * c + v < s by omega)
        rw [M.hs] at hidx hat
        simp only [cond_false, bnd_some_eq, impl_isRule, hat, rule_at hlt]
        by_cases h3 : m.Rules.getD (a * s + (2 * c + v)) noR = noR
        · rw [if_pos h3, decide_eq_true h3]
          exact ⟨_, rfl, rfl⟩
        · rw [if_neg h3, decide_eq_false h3]
          simp only [Bool.not_false, Bool.not_true, cond_false, bnd_some_eq, Out.elim, rule_at hlt]
          by_cases h4 : B = 1
          · rw [if_pos h4, decide_eq_true (by omega : (B : Int) = 1)]
            exact ⟨_, rfl, rfl⟩
          · rw [if_neg h4, decide_eq_false (by omega : ¬ (B : Int) = 1), impl_bit _ (by omega : B - 1 < B) hB3, show w64 ((B : Int) - 2) = ((B - 2 : Nat) : Int) by rw [w64_in (by omega) (by omega)]; omega]
            exact ⟨_, rfl, rfl⟩
  · have k0 : decide ((1 : Int) = 0) = false := rfl
    have k1 : decide ((1 : Int) = 1) = true := rfl
    simp only [F_impl_binary_1, binA, if_neg (show ¬ (1 : Int) = 0 by decide), if_true, Int.toNat_natCast, k0, k1, decide_true, cond_true, cond_false, eB1, rule_at ha, bnd_some_eq, impl_bit _ (by omega : b < B) hB3]
    by_cases h1 : 0 < (b : Int)
    · rw [if_pos h1, decide_eq_true h1, w64_in (by omega) (by omega)]
      exact ⟨_, rfl, rfl⟩
    · rw [if_neg h1, decide_eq_false h1]
      exact ⟨_, rfl, rfl⟩
  · have k0 : decide ((2 : Int) = 0) = false := rfl
    have k1 : decide ((2 : Int) = 1) = false := rfl
    simp only [F_impl_binary_1, binA, if_neg (show ¬ (2 : Int) = 0 by decide), if_neg (show ¬ (2 : Int) = 1 by decide), Int.toNat_natCast, k0, k1, cond_false, rule_at ha, bnd_some_eq, F_impl_startOf]
    by_cases h1 : (b : Int) = 1
    · rw [if_pos h1, decide_eq_true h1]
      exact ⟨_, rfl, rfl⟩
    · rw [if_neg h1, decide_eq_false h1, w64_in (by omega) (by omega)]
      exact ⟨_, rfl, rfl⟩
/-! ### The reference's -/
theorem bin_mv {m : GMachine} {s q : Nat} (M : MaI m s q) : MvOk (F_spec_l13Binary m) binE (binA m s (bitsN s)) 2 (binV m q (bitsN s)) := by
  refine ⟨fun p p' hp hp' e => ?_, fun p hp => ?_, fun p v hp hv => ?_⟩
  · rcases hp with ⟨a, b, c, rfl, _⟩ | ⟨a, b, rfl, _⟩ | ⟨a, b, rfl, _⟩ <;> rcases hp' with ⟨a', b', c', rfl, _⟩ | ⟨a', b', rfl, _⟩ | ⟨a', b', rfl, _⟩ <;> simp [binE] at e ⊢ <;> exact e
  · unfold binE
    split <;> simp
  · obtain ⟨hB1, hB3⟩ := @bitsN_in s
    have b2 := M.b2
    unfold F_spec_l13Binary
    rw [spec_bits M, bnd_some_eq]
    generalize hB : bitsN s = B at *
    have eB1 : w64 ((B : Int) - 1) = ((B - 1 : Nat) : Int) := by rw [w64_in (by omega) (by omega)]; omega
    rcases hp with ⟨a, b, c, rfl, ha, hb, hc, hc0, hc1⟩ | ⟨a, b, rfl, ha, hn, hb⟩ | ⟨a, b, rfl, ha, hn, hb1, hb2⟩
    · have ey : w64 ((w64 (2 * (c : Int))) + (v : Int)) = ((2 * c + v : Nat) : Int) := by
        rw [w64_in (n := 2 * (c : Int)) (by omega) (by omega), w64_in (by omega) (by omega)]
        omega
      have k0 : decide ((0 : Int) = 0) = true := rfl
      simp only [binE, if_true, idxc0, idxc1, idxc2, idxc3, bnd_some_eq, k0, decide_true, cond_true, eB1, ey, F_spec_l13Go, F_spec_l05None, binA, Int.toNat_natCast]
      by_cases h1 : b + 1 < B
      · rw [if_pos h1, decide_eq_true (by omega : (b : Int) < ((B - 1 : Nat) : Int)), w64_nat1 (by omega)]
        exact ⟨_, rfl, rfl⟩
      · rw [if_neg h1, decide_eq_false (by omega : ¬ (b : Int) < ((B - 1 : Nat) : Int)), M.hs]
        simp only [cond_false]
        by_cases h2 : s ≤ 2 * c + v
        · rw [if_pos h2, decide_eq_true (by omega : (s : Int) ≤ ((2 * c + v : Nat) : Int))]
          exact ⟨_, rfl, rfl⟩
        · rw [if_neg h2, decide_eq_false (by omega : ¬ (s : Int) ≤ ((2 * c + v : Nat) : Int))]
          obtain ⟨hidx, hmem, hat, hlt⟩ := rule_idx M ha (show 2 * c + v < s by omega)
          rw [M.hs] at hidx hat
          simp only [cond_false, bnd_some_eq, hat, rule_at hlt]
          by_cases h3 : m.Rules.getD (a * s + (2 * c + v)) noR = noR
          · rw [if_pos h3, show decide (m.Rules.getD (a * s + (2 * c + v)) noR = (⟨0, 0, -1⟩ : GRule)) = true from decide_eq_true h3]
            exact ⟨_, rfl, rfl⟩
          · rw [if_neg h3, show decide (m.Rules.getD (a * s + (2 * c + v)) noR = (⟨0, 0, -1⟩ : GRule)) = false from decide_eq_false h3]
            simp only [cond_false, bnd_some_eq, Out.elim, rule_at hlt]
            by_cases h4 : B = 1
            · rw [if_pos h4, decide_eq_true (by omega : (B : Int) = 1)]
              exact ⟨_, rfl, rfl⟩
            · rw [if_neg h4, decide_eq_false (by omega : ¬ (B : Int) = 1), spec_bit _ (by omega : B - 1 < B) hB3, show w64 ((B : Int) - 2) = ((B - 2 : Nat) : Int) by rw [w64_in (by omega) (by omega)]; omega]
              exact ⟨_, rfl, rfl⟩
    · have k0 : decide ((1 : Int) = 0) = false := rfl
      have k1 : decide ((1 : Int) = 1) = true := rfl
      simp only [binE, if_neg (show ¬ (1 : Int) = 0 by decide), idxc0, idxc1, idxc2, bnd_some_eq, k0, k1, decide_true, cond_true, cond_false, eB1, rule_at ha, F_spec_l13Go, binA, if_true, Int.toNat_natCast]
      by_cases h1 : 0 < (b : Int)
      · rw [if_pos h1, decide_eq_true h1, w64_in (by omega) (by omega), spec_bit _ (by omega : b < B) hB3]
        exact ⟨_, rfl, rfl⟩
      · rw [if_neg h1, decide_eq_false h1]
        obtain rfl : b = 0 := by omega
        rw [show (0 : Int) = ((0 : Nat) : Int) from rfl, spec_bit _ (by omega : 0 < B) hB3]
        exact ⟨_, rfl, rfl⟩
    · have k0 : decide ((2 : Int) = 0) = false := rfl
      have k1 : decide ((2 : Int) = 1) = false := rfl
      simp only [binE, if_neg (show ¬ (2 : Int) = 0 by decide), if_neg (show ¬ (2 : Int) = 1 by decide), idxc0, idxc1, idxc2, bnd_some_eq, k0, k1, cond_false, rule_at ha, F_spec_l13Go, binA, Int.toNat_natCast]
      by_cases h1 : (b : Int) = 1
      · rw [if_pos h1, decide_eq_true h1]
        exact ⟨_, rfl, rfl⟩
      · rw [if_neg h1, decide_eq_false h1, w64_in (by omega) (by omega)]
        exact ⟨_, rfl, rfl⟩
/-! ### The laws -/
theorem ex_BinaryMachine (m : GMachine) (s0 : Sml m) :
    ∃ w : GMachine × Int, F_spec_BinaryMachine m = some w ∧ F_impl_BinaryMachine m = some w ∧ Med w.1 ∧ Cnt.cnt w.1.Rules ≤ 1152921504606846976 := by
  unfold F_spec_BinaryMachine F_impl_BinaryMachine
  rw [spec_mach m s0, impl_mach m s0, bnd_some_eq, bnd_some_eq]
  cases hm : machB m
  · exact ⟨_, rfl, rfl, mach_fit (Nat.zero_le _)⟩
  obtain ⟨s, q, M⟩ := machB_mai hm
  simp only [Bool.not_true, cond_false]
  have b3 := M.b3
  obtain ⟨hB1, hB3⟩ := @bitsN_in s
  have hst : binV m q (bitsN s) ⟨0, 0, 0, 0⟩ := binV_start hB1 (by omega)
  have hsp := sp_run (R0 := Option (GMachine × Int)) (fail := some ((⟨0, 0, ([] : (List GRule))⟩ : GMachine), 5)) (by omega : 2 ≤ 100) (bin_mv M) (bin_act M) 1002 0 [] [⟨0, 0, 0, 0⟩] (by omega) (by omega) (by simp) (av_one hst) (by simp)
  have him := im_run (R0 := Option (GMachine × Int)) (fail := some ((⟨0, 0, ([] : (List GRule))⟩ : GMachine), 5)) (by omega : 2 ≤ 100) (bin_at M) (bin_act M) 1002 0 [] [⟨0, 0, 0, 0⟩] (mput [] ⟨0, 0, 0, 0⟩ 0) (by omega) (by omega) (by simp) (av_one hst) (num_one _) (by simp)
  have e1 : F_spec_BinaryMachine_L1 m = spL1 (some ((⟨0, 0, ([] : (List GRule))⟩ : GMachine), 5)) ((2 : Nat) : Int) (F_spec_l13Binary m) := rfl
  have e2 : F_impl_BinaryMachine_L1 m ((bitsN s : Nat) : Int) = imL1 (some ((⟨0, 0, ([] : (List GRule))⟩ : GMachine), 5)) ((2 : Nat) : Int) (fun p v => F_impl_binary_1 p v m ((bitsN s : Nat) : Int)) (fun a => a.none) (fun a => a.write) (fun a => a.move) (fun a => (⟨a.next_kind, a.next_a, a.next_b, a.next_c⟩ : GbitPlace)) := rfl
  have e3 : app ([] : List GbitPlace) [(⟨0, 0, 0, 0⟩ : GbitPlace)] = some [⟨0, 0, 0, 0⟩] := rfl
  rw [e1, impl_bits M, bnd_some_eq]
  simp only [F_impl_startOf, bnd_some_eq]
  rw [e2, e3]
  simp only [mget_nil, Option.isSome_none, Bool.not_false, cond_true, bnd_some_eq, Out.elim, F_impl_size_impl_bitPlace, List.length_nil]
  simp only [List.map_cons, List.map_nil] at hsp
  have ez : ((0 : Nat) : Int) = 0 := rfl
  rw [ez] at hsp him ⊢
  have ef : binE ⟨0, 0, 0, 0⟩ = [0, 0, 0, 0] := rfl
  rw [ef] at hsp
  rw [hsp]
  cases hb : buildA (binA m s (bitsN s)) 2 1002 0 ([], [(⟨0, 0, 0, 0⟩ : GbitPlace)]) with
  | none =>
    rw [hb] at him
    simp only at him
    rw [him]
    exact ⟨_, rfl, rfl, mach_fit (Nat.zero_le _)⟩
  | some st =>
    rw [hb] at him
    obtain ⟨nums, him, _, _, _, hr⟩ := him
    rw [him]
    refine ⟨_, rfl, ?_, mach_fit (by simp only [bnd_some_eq, Out.elim]; omega)⟩
    simp only [bnd_some_eq, Out.elim, List.length_map]
theorem law_BinaryMachine (m : GMachine) (w0 : Wf.wf m) : F_laws_FnExactBinaryMachine m = some true :=
  lawof_BinaryMachine m w0 (ex_BinaryMachine m)
def codesL (xs : List Int) (B : Nat) : List Int := xs.flatMap fun x => (List.range B).map fun j => bitZ x B j
def codesB (xs : List Int) (B : Nat) : List Int := xs.flatMap fun x => (List.range B).map fun j => bitZ x B (B - 1 - j)
theorem codes_rev (xs : List Int) (B : Nat) : (codesL xs.reverse B).reverse = codesB xs B := by
  unfold codesL codesB
  rw [List.reverse_flatMap, List.reverse_reverse]
  congr 1
  funext x
  apply List.ext_getElem
  · simp
  · intro i h1 h2
    simp only [List.length_map, List.length_range] at h2
    simp only [Function.comp, List.getElem_reverse, List.getElem_map, List.getElem_range, List.length_map, List.length_range]
theorem codes_len (f : Int → Nat → Int) (B : Nat) : ∀ xs : List Int, (xs.flatMap fun x => (List.range B).map fun j => f x j).length = xs.length * B
  | [] => by simp
  | x :: xs => by rw [List.flatMap_cons, List.length_append, codes_len f B xs]; simp [Nat.add_mul]; omega
theorem impl_codedL (xs : List Int) {B : Nat} (hB : B ≤ 3) (h : xs.length ≤ 1000) : F_impl_coded xs (B : Int) = some (codesL xs B) := by
  unfold F_impl_coded
  have inner : ∀ (x : Int) (a : List Int), a.length ≤ 10000 → run (F_impl_coded_L2 (B : Int) x) (a, 0) = some (.brk (a ++ (List.range B).map (fun j => bitZ x B j), (B : Int))) := by
    intro x a ha
    rw [run_rangeL (body := F_impl_coded_L2 (B : Int) x) B (by omega) (fun a i => (a, i)) (fun j => [bitZ x B j]) 1 (fun _ _ => by simp) a 10000 ha (fun i b hi hb => by
      simp only [F_impl_coded_L2, Int.ofNat_lt, hi, decide_true, cond_true, impl_bit _ hi hB, bnd_some_eq]
      rw [app_ok (by simp; omega), bnd_some_eq])]
    rw [run_done (x := .brk (a ++ (List.range B).flatMap fun j => [bitZ x B j], (B : Int))) (by simp [F_impl_coded_L2]), List.map_eq_flatMap]
  have := (run_rowf (body := F_impl_coded_L1 xs (B : Int)) xs (by omega) (fun (a : List Int) i => (a, i)) (fun a x => a ++ (List.range B).map (fun j => bitZ x B j)) (fun i a => a.length ≤ 3 * i) (by
    intro i hi a k
    refine ⟨?_, by rw [List.length_append, List.length_map, List.length_range]; omega⟩
    simp only [F_impl_coded_L1, Int.ofNat_lt, hi, decide_true, cond_true, idx_nat hi, bnd_some_eq]
    rw [inner _ _ (by omega), bnd_some_eq]
    rfl) [] (by simp)).1
  rw [foldl_app1, List.nil_append] at this
  rw [this, run_done (x := .brk (codesL xs B, (xs.length : Int))) (by simp [F_impl_coded_L1, codesL])]
  rfl
theorem spec_codesF (xs : List Int) {B : Nat} (hB : B ≤ 3) (h : xs.length ≤ 1000) : F_spec_l13Codes xs (B : Int) false = some (codesL xs B) := by
  unfold F_spec_l13Codes
  have inner : ∀ (i : Nat) (hi : i < xs.length) (a : List Int), a.length ≤ 10000 → run (F_spec_l13Codes_L2 xs (B : Int) false (a, (i : Int))) (a, 0) = some (.brk (a ++ (List.range B).map (fun j => bitZ xs[i] B j), (B : Int))) := by
    intro i hi a ha
    rw [run_rangeL (body := F_spec_l13Codes_L2 xs (B : Int) false (a, (i : Int))) B (by omega) (fun a i => (a, i)) (fun j => [bitZ xs[i] B j]) 1 (fun _ _ => by simp) a 10000 ha (fun j b hj hb => by
      simp only [F_spec_l13Codes_L2, Int.ofNat_lt, hj, decide_true, cond_true, cond_false, idx_nat hi, spec_bit _ hj hB, bnd_some_eq]
      rw [app_ok (by simp; omega), bnd_some_eq])]
    rw [run_done (x := .brk (a ++ (List.range B).flatMap fun j => [bitZ xs[i] B j], (B : Int))) (by simp [F_spec_l13Codes_L2]), List.map_eq_flatMap]
  have := (run_rowf (body := F_spec_l13Codes_L1 xs (B : Int) false) xs (by omega) (fun (a : List Int) i => (a, i)) (fun a x => a ++ (List.range B).map (fun j => bitZ x B j)) (fun i a => a.length ≤ 3 * i) (by
    intro i hi a k
    refine ⟨?_, by rw [List.length_append, List.length_map, List.length_range]; omega⟩
    simp only [F_spec_l13Codes_L1, Int.ofNat_lt, hi, decide_true, cond_true]
    rw [inner i hi _ (by omega), bnd_some_eq]
    rfl) [] (by simp)).1
  rw [foldl_app1, List.nil_append] at this
  rw [this, run_done (x := .brk (codesL xs B, (xs.length : Int))) (by simp [F_spec_l13Codes_L1, codesL])]
  rfl
theorem spec_codesT (xs : List Int) {B : Nat} (hB : B ≤ 3) (h : xs.length ≤ 1000) : F_spec_l13Codes xs (B : Int) true = some (codesB xs B) := by
  unfold F_spec_l13Codes
  have inner : ∀ (i : Nat) (hi : i < xs.length) (a : List Int), a.length ≤ 10000 → run (F_spec_l13Codes_L2 xs (B : Int) true (a, (i : Int))) (a, 0) = some (.brk (a ++ (List.range B).map (fun j => bitZ xs[i] B (B - 1 - j)), (B : Int))) := by
    intro i hi a ha
    rw [run_rangeL (body := F_spec_l13Codes_L2 xs (B : Int) true (a, (i : Int))) B (by omega) (fun a i => (a, i)) (fun j => [bitZ xs[i] B (B - 1 - j)]) 1 (fun _ _ => by simp) a 10000 ha (fun j b hj hb => by
      have e : w64 ((w64 ((B : Int) - 1)) - (j : Int)) = ((B - 1 - j : Nat) : Int) := by
        rw [w64_in (n := (B : Int) - 1) (by omega) (by omega), w64_in (by omega) (by omega)]
        omega
      simp only [F_spec_l13Codes_L2, Int.ofNat_lt, hj, decide_true, cond_true, idx_nat hi, e, spec_bit _ (by omega : B - 1 - j < B) hB, bnd_some_eq]
      rw [app_ok (by simp; omega), bnd_some_eq])]
    rw [run_done (x := .brk (a ++ (List.range B).flatMap fun j => [bitZ xs[i] B (B - 1 - j)], (B : Int))) (by simp [F_spec_l13Codes_L2]), List.map_eq_flatMap]
  have := (run_rowf (body := F_spec_l13Codes_L1 xs (B : Int) true) xs (by omega) (fun (a : List Int) i => (a, i)) (fun a x => a ++ (List.range B).map (fun j => bitZ x B (B - 1 - j))) (fun i a => a.length ≤ 3 * i) (by
    intro i hi a k
    refine ⟨?_, by rw [List.length_append, List.length_map, List.length_range]; omega⟩
    simp only [F_spec_l13Codes_L1, Int.ofNat_lt, hi, decide_true, cond_true]
    rw [inner i hi _ (by omega), bnd_some_eq]
    rfl) [] (by simp)).1
  rw [foldl_app1, List.nil_append] at this
  rw [this, run_done (x := .brk (codesB xs B, (xs.length : Int))) (by simp [F_spec_l13Codes_L1, codesB])]
  rfl
theorem ex_BinaryConfig (m : GMachine) (c : GConfig) (s0 : Sml m) (s1 : Sml c) :
    ∃ w : GConfig × Int, F_spec_BinaryConfig m c = some w ∧ F_impl_BinaryConfig m c = some w ∧ Med w.1 ∧ Cnt.cnt w.1.Left + Cnt.cnt w.1.Right ≤ 1152921504606846976 := by
  have nil : ∀ k : Int, Med (((⟨0, [], []⟩ : GConfig), k) : GConfig × Int).1 ∧ Cnt.cnt (((⟨0, [], []⟩ : GConfig), k) : GConfig × Int).1.Left + Cnt.cnt (((⟨0, [], []⟩ : GConfig), k) : GConfig × Int).1.Right ≤ 1152921504606846976 := fun k => conf_fit (Nat.zero_le _) (Nat.zero_le _)
  unfold F_spec_BinaryConfig F_impl_BinaryConfig
  rw [spec_mach m s0, impl_confV m c s0 s1, bnd_some_eq, bnd_some_eq]
  cases hm : machB m
  · exact ⟨_, rfl, rfl, nil _⟩
  obtain ⟨q1, q2⟩ := machB_in hm
  rw [spec_good m c q1 q2 s1]
  simp only [Bool.not_true, cond_false, bnd_some_eq, Bool.true_and]
  cases hc : confB m c
  · exact ⟨_, rfl, rfl, nil _⟩
  simp only [Bool.not_true, cond_false, bnd_some_eq, Out.elim]
  obtain ⟨s, q, M⟩ := machB_mai hm
  have hs := M.hs
  have hq := M.hq
  have b3 := M.b3
  have hlen := confB_len hc
  obtain ⟨hB1, hB3⟩ := @bitsN_in s
  have hst : binV m q (bitsN s) ⟨0, 0, 0, 0⟩ := binV_start hB1 (by omega)
  have hsp := sp_run (R0 := Option (GConfig × Int)) (fail := some ((⟨0, [], []⟩ : GConfig), 5)) (by omega : 2 ≤ 100) (bin_mv M) (bin_act M) 1002 0 [] [⟨0, 0, 0, 0⟩] (by omega) (by omega) (by simp) (av_one hst) (by simp)
  have him := im_run (R0 := Option (GConfig × Int)) (fail := some ((⟨0, [], []⟩ : GConfig), 5)) (by omega : 2 ≤ 100) (bin_at M) (bin_act M) 1002 0 [] [⟨0, 0, 0, 0⟩] (mput [] ⟨0, 0, 0, 0⟩ 0) (by omega) (by omega) (by simp) (av_one hst) (num_one _) (by simp)
  have e1 : F_spec_BinaryConfig_L1 m = spL1 (some ((⟨0, [], []⟩ : GConfig), 5)) ((2 : Nat) : Int) (F_spec_l13Binary m) := rfl
  have e2 : F_impl_BinaryConfig_L1 m ((bitsN s : Nat) : Int) = imL1 (some ((⟨0, [], []⟩ : GConfig), 5)) ((2 : Nat) : Int) (fun p v => F_impl_binary_1 p v m ((bitsN s : Nat) : Int)) (fun a => a.none) (fun a => a.write) (fun a => a.move) (fun a => (⟨a.next_kind, a.next_a, a.next_b, a.next_c⟩ : GbitPlace)) := rfl
  have e3 : app ([] : List GbitPlace) [(⟨0, 0, 0, 0⟩ : GbitPlace)] = some [⟨0, 0, 0, 0⟩] := rfl
  rw [e1, impl_bits M, bnd_some_eq]
  simp only [F_impl_startOf, bnd_some_eq]
  rw [e2, e3]
  simp only [mget_nil, Option.isSome_none, Bool.not_false, cond_true, bnd_some_eq, Out.elim, F_impl_size_impl_bitPlace, List.length_nil]
  simp only [List.map_cons, List.map_nil] at hsp
  have ez : ((0 : Nat) : Int) = 0 := rfl
  rw [ez] at hsp him ⊢
  have ef : binE ⟨0, 0, 0, 0⟩ = [0, 0, 0, 0] := rfl
  rw [ef] at hsp
  rw [hsp]
  cases hb : buildA (binA m s (bitsN s)) 2 1002 0 ([], [(⟨0, 0, 0, 0⟩ : GbitPlace)]) with
  | none =>
    rw [hb] at him
    simp only at him
    rw [him]
    exact ⟨_, rfl, rfl, nil _⟩
  | some st =>
    rw [hb] at him
    obtain ⟨nums, him, hN, hV, hl, hr⟩ := him
    rw [him]
    simp only [bnd_some_eq, Out.elim]
    have lL : (codesB c.Left (bitsN s)).length ≤ 600 := by
      unfold codesB
      rw [codes_len (fun x j => bitZ x (bitsN s) (bitsN s - 1 - j))]
      have : c.Left.length * bitsN s ≤ 200 * 3 := Nat.mul_le_mul hlen.1 hB3
      omega
    have lR : (codesL c.Right (bitsN s)).length ≤ 600 := by
      unfold codesL
      rw [codes_len (fun x j => bitZ x (bitsN s) j)]
      have : c.Right.length * bitsN s ≤ 200 * 3 := Nat.mul_le_mul hlen.2.1 hB3
      omega
    have lR' : (codesL c.Left.reverse (bitsN s)).length ≤ 600 := by rw [← List.length_reverse, codes_rev]; exact lL
    rw [impl_reversed _ (by omega), bnd_some_eq, impl_codedL _ hB3 (by simp; omega), bnd_some_eq, impl_reversed _ (by omega), bnd_some_eq, codes_rev, impl_codedL _ hB3 (by omega), bnd_some_eq]
    have hVs : binV m q (bitsN s) ⟨0, c.State, 0, 0⟩ := binV_start hB1 (by omega)
    have hfe := find_enc (bin_mv M) hVs st.2 hV
    have eE : binE ⟨0, c.State, 0, 0⟩ = [0, c.State, 0, 0] := rfl
    rw [eE] at hfe
    have hl' : (st.2.map binE).length = st.2.length := List.length_map _
    have htL := trimL_len (codesB c.Left (bitsN s))
    have htR := trimL_len (codesL c.Right (bitsN s))
    have hcs : ∀ i : Int, Sml (⟨i, trimL (codesB c.Left (bitsN s)), trimL (codesL c.Right (bitsN s))⟩ : GConfig) := fun i => ⟨⟨by simp only; omega, fun _ _ => trivial⟩, ⟨by simp only; omega, fun _ _ => trivial⟩⟩
    have hg1 : 0 ≤ (2 : Int) ∧ (2 : Int) ≤ 1000000 := by omega
    have hg2 : 0 ≤ (st.2.length : Int) ∧ (st.2.length : Int) ≤ 1000000 := by omega
    rw [run_findL (body := F_spec_BinaryConfig_L4 m c (st.2.map binE, st.1, (st.2.length : Int))) (st.2.map binE) (by omega) [0, c.State, 0, 0] (fun i => cond (confB (⟨2, (st.2.length : Int), st.1⟩ : GMachine) ⟨i, trimL (codesB c.Left (bitsN s)), trimL (codesL c.Right (bitsN s))⟩) (some ((⟨i, trimL (codesB c.Left (bitsN s)), trimL (codesL c.Right (bitsN s))⟩ : GConfig), 0)) (some ((⟨0, [], []⟩ : GConfig), 5))) (by
      intro i hi he
      have hy : ((st.2.map binE)[i]).length ≤ 100 := by rw [he]; simp
      have hs' := same_L (xs := (st.2.map binE)[i]) (ys := [0, c.State, 0, 0]) (by omega) (by simp)
      have kf : decide ((i : Int) < 0) = false := decide_eq_false (by omega)
      simp only [F_spec_BinaryConfig_L4, Int.ofNat_lt, hi, decide_true, cond_true, idx_nat hi, bnd_some_eq, hs', decide_eq_true he, kf, cond_false]
      rw [spec_bits M, bnd_some_eq, spec_codesT _ hB3 (by omega), bnd_some_eq, spec_trim _ (by omega), bnd_some_eq, spec_codesF _ hB3 (by omega), bnd_some_eq, spec_trim _ (by omega), bnd_some_eq, hl', spec_good _ _ hg1 hg2 (hcs _), bnd_some_eq]
      cases confB (⟨2, (st.2.length : Int), st.1⟩ : GMachine) ⟨(i : Int), trimL (codesB c.Left (bitsN s)), trimL (codesL c.Right (bitsN s))⟩ <;> rfl) (by
      intro i hi he
      have hy : ((st.2.map binE)[i]).length ≤ 100 := by
        rw [List.getElem_map]
        exact (bin_mv M).len _ (hV _ (List.getElem_mem _))
      have hs' := same_L (xs := (st.2.map binE)[i]) (ys := [0, c.State, 0, 0]) (by omega) (by simp)
      simp only [F_spec_BinaryConfig_L4, Int.ofNat_lt, hi, decide_true, cond_true, idx_nat hi, bnd_some_eq, hs', decide_eq_false he, cond_false]
      rw [w64_nat1 (by omega)]) (by simp [F_spec_BinaryConfig_L4])]
    rw [hfe]
    have e := hN ⟨0, c.State, 0, 0⟩
    cases hi : st.2.findIdx? (fun z => decide (z = (⟨0, c.State, 0, 0⟩ : GbitPlace))) with
    | none =>
      rw [hi, Option.map_none] at e
      rw [e]
      exact ⟨_, rfl, rfl, nil _⟩
    | some i =>
      rw [hi, Option.map_some] at e
      rw [e]
      simp only [Option.isSome_some, Bool.not_true, cond_false, Option.getD_some, bnd_some_eq, Out.elim]
      rw [impl_trimmed _ (by omega), bnd_some_eq, impl_trimmed _ (by omega), bnd_some_eq, impl_confOf _ _ hg1 hg2 (hcs _), bnd_some_eq]
      cases confB (⟨2, (st.2.length : Int), st.1⟩ : GMachine) ⟨(i : Int), trimL (codesB c.Left (bitsN s)), trimL (codesL c.Right (bitsN s))⟩
      · exact ⟨_, rfl, rfl, nil _⟩
      · exact ⟨_, rfl, rfl, conf_fit (by simp only; omega) (by simp only; omega)⟩
theorem law_BinaryConfig (m : GMachine) (c : GConfig) (w0 : Wf.wf m) (w1 : Wf.wf c) : F_laws_FnExactBinaryConfig m c = some true :=
  lawof_BinaryConfig m c w0 w1 (ex_BinaryConfig m c)
end Go.Fn
