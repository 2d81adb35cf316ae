/-
  Configurations of machines with two symbols, read back; the plain law of DecodeBinary. No program in sight. No condition.
-/
import Derived.Test.YtceimgjcikkadaaPBin
namespace Go.Fn
open Go Go.Tc
/-- The cells of a row at f 0, .., f (B - 1), as the bits of a number. -/
def chV (f : Nat → Nat) (xs : List Int) (B : Nat) : Int := (List.range B).foldl (fun x j => x * 2 + xs.getD (f j) 0) 0
def BitRow (xs : List Int) : Prop := ∀ j, 0 ≤ xs.getD j 0 ∧ xs.getD j 0 ≤ 1
theorem chV_in {xs : List Int} (hx : BitRow xs) (f : Nat → Nat) : ∀ B, 0 ≤ chV f xs B ∧ chV f xs B < 2 ^ B
  | 0 => by simp [chV]
  | B + 1 => by
    have ih := chV_in hx f B
    have h := hx (f B)
    have e : chV f xs (B + 1) = chV f xs B * 2 + xs.getD (f B) 0 := by unfold chV; rw [List.range_succ, List.foldl_append]; rfl
    rw [e, show (2 : Int) ^ (B + 1) = 2 ^ B * 2 from Int.pow_succ 2 B]
    omega
theorem chV_succ (f : Nat → Nat) (xs : List Int) (B : Nat) : chV f xs (B + 1) = chV f xs B * 2 + xs.getD (f B) 0 := by unfold chV; rw [List.range_succ, List.foldl_append]; rfl
theorem pow_le8 {B : Nat} (h : B ≤ 3) : (2 : Int) ^ B ≤ 8 := by
  rcases (by omega : B = 0 ∨ B = 1 ∨ B = 2 ∨ B = 3) with rfl | rfl | rfl | rfl <;> decide
theorem run_bitsV {R : Type} {body : Int × Int → Option ((Int × Int) ⊕ Out (Int × Int) R)} {xs : List Int} (hx : BitRow xs) {B : Nat} (hB : B ≤ 3) (f : Nat → Nat)
    (h1 : ∀ (x : Int) (j : Nat), 0 ≤ x → x ≤ 8 → j < B → body (x, (j : Int)) = some (.inl (x * 2 + xs.getD (f j) 0, ((j + 1 : Nat) : Int)))) (h2 : ∀ x : Int, body (x, (B : Int)) = some (.inr (.brk (x, (B : Int))))) :
    run body (0, 0) = some (.brk (chV f xs B, (B : Int))) := by
  have : ∀ k, k ≤ B → run body (0, 0) = run body (chV f xs k, (k : Int)) := by
    intro k
    induction k with
    | zero => intro _; rfl
    | succ k ih =>
      intro hk
      have hi := chV_in hx f k
      have hp := pow_le8 (show k ≤ 3 by omega)
      rw [ih (by omega), run_next (h1 _ k hi.1 (by omega) (by omega)), chV_succ]
  rw [this B (Nat.le_refl _), run_done (h2 _)]
def nCh (len B : Nat) : Nat := (len + B - 1) / B
theorem lt_nCh {len B k : Nat} (hB : 1 ≤ B) : k < nCh len B ↔ k * B < len := by
  unfold nCh
  rw [Nat.lt_iff_add_one_le, Nat.le_div_iff_mul_le (by omega), Nat.add_mul]
  omega
theorem nCh_le {len B : Nat} (hB : 1 ≤ B) : nCh len B ≤ len := by
  rcases Nat.lt_or_ge len (nCh len B) with h | h
  · have := (lt_nCh hB).1 h
    have := Nat.le_mul_of_pos_right len hB
    omega
  · exact h
theorem nCh_mul {len B : Nat} (hB : 1 ≤ B) : len ≤ nCh len B * B := by
  rcases Nat.lt_or_ge (nCh len B * B) len with h | h
  · exact absurd ((lt_nCh hB).2 h) (by omega)
  · exact h
theorem nCh_self {N B : Nat} (hB : 1 ≤ B) : nCh (N * B) B = N := by
  have h1 : ∀ k, k < nCh (N * B) B ↔ k < N := fun k => by rw [lt_nCh hB]; exact ⟨fun h => Nat.lt_of_mul_lt_mul_right h, fun h => Nat.mul_lt_mul_of_pos_right h hB⟩
  have h2 := h1 (nCh (N * B) B)
  have h3 := h1 N
  omega
/-- The symbols of the parts of a row; none if one is no symbol. -/
def symsOf (g : Nat → Int) (N : Nat) (S : Int) : Option (List Int) := if (List.range N).all (fun k => decide (g k < S)) then some ((List.range N).map g) else none
theorem run_symsV {body : List Int × Int → Option ((List Int × Int) ⊕ Out (List Int × Int) (List Int × Bool))} {S : Int} {N B : Nat} (g : Nat → Int) (hN : N ≤ 1000)
    (h1 : ∀ (a : List Int) (k : Nat), k < N → a.length ≤ 1000 → body (a, ((k * B : Nat) : Int)) = if S ≤ g k then some (.inr (.ret ([], false))) else some (.inl (a ++ [g k], (((k + 1) * B : Nat) : Int))))
    (h2 : ∀ a : List Int, body (a, ((N * B : Nat) : Int)) = some (.inr (.brk (a, ((N * B : Nat) : Int))))) :
    run body ([], 0) = some (match symsOf g N S with | some l => .brk (l, ((N * B : Nat) : Int)) | none => .ret ([], false)) := by
  have key : ∀ k, k ≤ N → (List.range k).all (fun k => decide (g k < S)) = true → run body ([], 0) = run body ((List.range k).map g, ((k * B : Nat) : Int)) := by
    intro k
    induction k with
    | zero => intro _ _; simp
    | succ k ih =>
      intro hk ha
      rw [List.range_succ, List.all_append, Bool.and_eq_true] at ha
      have hg : g k < S := by simpa using ha.2
      have := h1 ((List.range k).map g) k (by omega) (by simp; omega)
      rw [if_neg (by omega)] at this
      rw [ih (by omega) ha.1, run_next this, List.range_succ, List.map_append]
      rfl
  by_cases ha : (List.range N).all (fun k => decide (g k < S)) = true
  · unfold symsOf
    rw [if_pos ha, key N (Nat.le_refl _) ha, run_done (h2 _)]
  · unfold symsOf
    rw [if_neg ha]
    have : ∃ k, k < N ∧ S ≤ g k ∧ (List.range k).all (fun k => decide (g k < S)) = true := by
      have : ∀ n, n ≤ N → (List.range n).all (fun k => decide (g k < S)) = true ∨ ∃ k, k < N ∧ S ≤ g k ∧ (List.range k).all (fun k => decide (g k < S)) = true := by
        intro n
        induction n with
        | zero => intro _; exact .inl rfl
        | succ n ih =>
          intro hn
          rcases ih (by omega) with h | h
          · by_cases hg : g n < S
            · left
              rw [List.range_succ, List.all_append, h]
              simp [hg]
            · exact .inr ⟨n, by omega, by omega, h⟩
          · exact .inr h
      rcases this N (Nat.le_refl _) with h | h
      · exact absurd h ha
      · exact h
    obtain ⟨k, hk, hg, hp⟩ := this
    have := h1 ((List.range k).map g) k hk (by simp; omega)
    rw [if_pos hg] at this
    rw [key k (by omega) hp, run_done this]
def symsR (xs : List Int) (B : Nat) (S : Int) : Option (List Int) := symsOf (fun k => chV (fun j => k * B + j) xs B) (nCh xs.length B) S
def symsL (xs : List Int) (B : Nat) (S : Int) : Option (List Int) := symsOf (fun k => chV (fun j => k * B + (B - 1 - j)) xs B) (nCh xs.length B) S
def symOut : Option (List Int) → List Int × Bool
  | some l => (trimL l, true)
  | none => ([], false)
theorem symsOf_len {g : Nat → Int} {N : Nat} {S : Int} {l : List Int} (h : symsOf g N S = some l) : l.length = N := by
  unfold symsOf at h
  split at h
  · rw [← Option.some.inj h]; simp
  · simp at h
theorem getD_out {xs : List Int} {j : Nat} (h : ¬ j < xs.length) : xs.getD j 0 = 0 := by
  rw [List.getD_eq_getElem?_getD, List.getElem?_eq_none (by omega)]; rfl
theorem getD_in {xs : List Int} {j : Nat} (h : j < xs.length) : xs.getD j 0 = xs[j] := by
  rw [List.getD_eq_getElem?_getD, List.getElem?_eq_getElem h]; rfl
theorem kB_le {k N B : Nat} (hk : k < N) : (k + 1) * B ≤ N * B := Nat.mul_le_mul_right B hk
theorem spec_symsF {xs : List Int} (hx : BitRow xs) {B : Nat} (hB1 : 1 ≤ B) (hB : B ≤ 3) (S : Int) (h : xs.length ≤ 900) : F_spec_l13Symbols xs (B : Int) S false = some (symOut (symsR xs B S)) := by
  unfold F_spec_l13Symbols
  have hn := nCh_le (len := xs.length) hB1
  have inner : ∀ (a : List Int) (k : Nat), k < nCh xs.length B → run (F_spec_l13Symbols_L2 xs (B : Int) false (a, ((k * B : Nat) : Int))) (0, 0) = some (.brk (chV (fun j => k * B + j) xs B, (B : Int))) := by
    intro a k hk
    have hkl := (lt_nCh hB1).1 hk
    refine run_bitsV hx hB (fun j => k * B + j) (fun x j h0 h8 hj => ?_) (fun x => by simp [F_spec_l13Symbols_L2])
    have e1 : w64 (((k * B : Nat) : Int) + (j : Int)) = ((k * B + j : Nat) : Int) := by rw [w64_in (by omega) (by omega)]; omega
    have e2 : w64 (x * 2) = x * 2 := w64_in (by omega) (by omega)
    have e3 := hx (k * B + j)
    simp only [F_spec_l13Symbols_L2, Int.ofNat_lt, hj, decide_true, cond_true, cond_false, bnd_some_eq, Out.elim, e1, e2, w64_nat1 (show j < 4611686018427387904 by omega)]
    by_cases hl : k * B + j < xs.length
    · simp only [hl, decide_true, cond_true, idx_nat hl, bnd_some_eq]
      rw [getD_in hl] at e3 ⊢
      rw [w64_in (by omega) (by omega)]
    · simp only [hl, decide_false, cond_false]
      rw [getD_out hl, Int.add_zero]
  rw [run_symsV (S := S) (N := nCh xs.length B) (B := B) (fun k => chV (fun j => k * B + j) xs B) (by omega) (fun a k hk ha => ?_) (fun a => ?_)]
  · unfold symsR
    cases hs : symsOf (fun k => chV (fun j => k * B + j) xs B) (nCh xs.length B) S with
    | none => rfl
    | some l =>
      have hl := symsOf_len hs
      simp only [bnd_some_eq, Out.elim]
      rw [spec_trim _ (by omega), bnd_some_eq]
      rfl
  · have hkl := (lt_nCh hB1).1 hk
    have e1 : w64 (((k * B : Nat) : Int) + (B : Int)) = (((k + 1) * B : Nat) : Int) := by rw [Nat.add_mul, w64_in (by omega) (by omega)]; omega
    simp only [F_spec_l13Symbols_L1, Int.ofNat_lt, hkl, decide_true, cond_true, inner a k hk, bnd_some_eq, Out.elim, e1]
    by_cases hg : S ≤ chV (fun j => k * B + j) xs B
    · rw [decide_eq_true hg, if_pos hg]; rfl
    · rw [decide_eq_false hg, if_neg hg, cond_false, app_ok (by simp; omega), bnd_some_eq]
  · have := nCh_mul (len := xs.length) hB1
    simp only [F_spec_l13Symbols_L1, Int.ofNat_lt, show ¬ nCh xs.length B * B < xs.length by omega, decide_false, cond_false]
theorem spec_symsT {xs : List Int} (hx : BitRow xs) {B : Nat} (hB1 : 1 ≤ B) (hB : B ≤ 3) (S : Int) (h : xs.length ≤ 900) : F_spec_l13Symbols xs (B : Int) S true = some (symOut (symsL xs B S)) := by
  unfold F_spec_l13Symbols
  have hn := nCh_le (len := xs.length) hB1
  have inner : ∀ (a : List Int) (k : Nat), k < nCh xs.length B → run (F_spec_l13Symbols_L2 xs (B : Int) true (a, ((k * B : Nat) : Int))) (0, 0) = some (.brk (chV (fun j => k * B + (B - 1 - j)) xs B, (B : Int))) := by
    intro a k hk
    have hkl := (lt_nCh hB1).1 hk
    refine run_bitsV hx hB (fun j => k * B + (B - 1 - j)) (fun x j h0 h8 hj => ?_) (fun x => by simp [F_spec_l13Symbols_L2])
    have e1 : w64 ((w64 ((w64 (((k * B : Nat) : Int) + (B : Int))) - 1)) - (j : Int)) = ((k * B + (B - 1 - j) : Nat) : Int) := by
      rw [w64_in (n := ((k * B : Nat) : Int) + (B : Int)) (by omega) (by omega), w64_in (n := ((k * B : Nat) : Int) + (B : Int) - 1) (by omega) (by omega), w64_in (by omega) (by omega)]; omega
    have e2 : w64 (x * 2) = x * 2 := w64_in (by omega) (by omega)
    have e3 := hx (k * B + (B - 1 - j))
    simp only [F_spec_l13Symbols_L2, Int.ofNat_lt, hj, decide_true, cond_true, cond_false, bnd_some_eq, Out.elim, e1, e2, w64_nat1 (show j < 4611686018427387904 by omega)]
    by_cases hl : k * B + (B - 1 - j) < xs.length
    · simp only [hl, decide_true, cond_true, idx_nat hl, bnd_some_eq]
      rw [getD_in hl] at e3 ⊢
      rw [w64_in (by omega) (by omega)]
    · simp only [hl, decide_false, cond_false]
      rw [getD_out hl, Int.add_zero]
  rw [run_symsV (S := S) (N := nCh xs.length B) (B := B) (fun k => chV (fun j => k * B + (B - 1 - j)) xs B) (by omega) (fun a k hk ha => ?_) (fun a => ?_)]
  · unfold symsL
    cases hs : symsOf (fun k => chV (fun j => k * B + (B - 1 - j)) xs B) (nCh xs.length B) S with
    | none => rfl
    | some l =>
      have hl := symsOf_len hs
      simp only [bnd_some_eq, Out.elim]
      rw [spec_trim _ (by omega), bnd_some_eq]
      rfl
  · have hkl := (lt_nCh hB1).1 hk
    have e1 : w64 (((k * B : Nat) : Int) + (B : Int)) = (((k + 1) * B : Nat) : Int) := by rw [Nat.add_mul, w64_in (by omega) (by omega)]; omega
    simp only [F_spec_l13Symbols_L1, Int.ofNat_lt, hkl, decide_true, cond_true, inner a k hk, bnd_some_eq, Out.elim, e1]
    by_cases hg : S ≤ chV (fun j => k * B + (B - 1 - j)) xs B
    · rw [decide_eq_true hg, if_pos hg]; rfl
    · rw [decide_eq_false hg, if_neg hg, cond_false, app_ok (by simp; omega), bnd_some_eq]
  · have := nCh_mul (len := xs.length) hB1
    simp only [F_spec_l13Symbols_L1, Int.ofNat_lt, show ¬ nCh xs.length B * B < xs.length by omega, decide_false, cond_false]
theorem run_side3 : ∀ (n : Nat) (xs : List Int), xs.length = n → n ≤ 1048576 → run F_impl_decodedSide_L3 xs = some (.brk (trimL xs))
  | 0, xs, h, _ => by
    obtain rfl : xs = [] := List.eq_nil_of_length_eq_zero h
    exact run_done rfl
  | n + 1, xs, h, hn => by
    rcases snoc_cases xs with rfl | ⟨ys, y, rfl⟩
    · simp at h
    have hy : ys.length = n := by simpa using h
    have hb : F_impl_decodedSide_L3 (ys ++ [y]) = cond (decide (y = 0)) (some (.inl ys)) (some (.inr (.brk (ys ++ [y])))) := by
      unfold F_impl_decodedSide_L3
      rw [decide_eq_true (by rw [h]; omega), cond_true, idx_snoc ys y (by omega), bnd_some_eq]
      have e : w64 (((ys ++ [y]).length : Int) - 1) = (ys.length : Int) := by
        rw [List.length_append, List.length_singleton, w64_in (by omega) (by omega)]
        omega
      rw [e, slc0 (by simp), bnd_some_eq, List.take_left]
    rw [trimL_snoc]
    by_cases hz : y = 0
    · rw [if_pos hz, run_next (by rw [hb, decide_eq_true hz]; rfl)]
      exact run_side3 n ys hy (by omega)
    · rw [if_neg hz, run_done (by rw [hb, decide_eq_false hz]; rfl)]
theorem impl_symsR {xs : List Int} (hx : BitRow xs) {B : Nat} (hB1 : 1 ≤ B) (hB : B ≤ 3) (S : Int) (h : xs.length ≤ 900) : F_impl_decodedSide xs (B : Int) S = some (symOut (symsR xs B S)) := by
  unfold F_impl_decodedSide
  have hn := nCh_le (len := xs.length) hB1
  have inner : ∀ (a : List Int) (k : Nat), k < nCh xs.length B → run (F_impl_decodedSide_L2 xs (B : Int) (a, ((k * B : Nat) : Int))) (0, 0) = some (.brk (chV (fun j => k * B + j) xs B, (B : Int))) := by
    intro a k hk
    have hkl := (lt_nCh hB1).1 hk
    refine run_bitsV hx hB (fun j => k * B + j) (fun x j h0 h8 hj => ?_) (fun x => by simp [F_impl_decodedSide_L2])
    have e1 : w64 (((k * B : Nat) : Int) + (j : Int)) = ((k * B + j : Nat) : Int) := by rw [w64_in (by omega) (by omega)]; omega
    have e2 : w64 (x * 2) = x * 2 := w64_in (by omega) (by omega)
    have e3 := hx (k * B + j)
    simp only [F_impl_decodedSide_L2, Int.ofNat_lt, hj, decide_true, cond_true, e1, e2, w64_nat1 (show j < 4611686018427387904 by omega)]
    by_cases hl : k * B + j < xs.length
    · simp only [hl, decide_true, cond_true, idx_nat hl, bnd_some_eq]
      rw [getD_in hl] at e3 ⊢
      rw [w64_in (by omega) (by omega)]
    · simp only [hl, decide_false, cond_false]
      rw [getD_out hl, Int.add_zero]
  rw [run_symsV (S := S) (N := nCh xs.length B) (B := B) (fun k => chV (fun j => k * B + j) xs B) (by omega) (fun a k hk ha => ?_) (fun a => ?_)]
  · unfold symsR
    cases hs : symsOf (fun k => chV (fun j => k * B + j) xs B) (nCh xs.length B) S with
    | none => rfl
    | some l =>
      have hl := symsOf_len hs
      simp only [bnd_some_eq, Out.elim]
      rw [run_side3 _ _ rfl (by omega)]
      rfl
  · have hkl := (lt_nCh hB1).1 hk
    have e1 : w64 (((k * B : Nat) : Int) + (B : Int)) = (((k + 1) * B : Nat) : Int) := by rw [Nat.add_mul, w64_in (by omega) (by omega)]; omega
    simp only [F_impl_decodedSide_L1, Int.ofNat_lt, hkl, decide_true, cond_true, inner a k hk, bnd_some_eq, Out.elim, e1]
    by_cases hg : S ≤ chV (fun j => k * B + j) xs B
    · rw [decide_eq_true hg, if_pos hg]; rfl
    · rw [decide_eq_false hg, if_neg hg, cond_false, app_ok (by simp; omega), bnd_some_eq]
  · have := nCh_mul (len := xs.length) hB1
    simp only [F_impl_decodedSide_L1, Int.ofNat_lt, show ¬ nCh xs.length B * B < xs.length by omega, decide_false, cond_false]
theorem run_pad {body : List Int → Option (List Int ⊕ Out (List Int) (List Int × Bool))} (N : Nat) (hN : N ≤ 1000000) (h1 : ∀ a : List Int, a.length < N → body a = some (.inl (a ++ [0]))) (h2 : ∀ a : List Int, a.length = N → body a = some (.inr (.brk a))) : ∀ (d : Nat) (a : List Int), a.length + d = N → run body a = some (.brk (a ++ List.replicate d 0))
  | 0, a, h => by rw [run_done (h2 a (by omega))]; simp
  | d + 1, a, h => by
    rw [run_next (h1 a (by omega)), run_pad N hN h1 h2 d _ (by simp; omega), List.replicate_succ, List.append_assoc]
    rfl
theorem run_padM {R : Type} {body : List Int → Option (List Int ⊕ Out (List Int) R)} (N m : Nat) (hm : m < N ∨ m = N) (h1 : ∀ a : List Int, m ≤ a.length → a.length < N → body a = some (.inl (a ++ [0]))) (h2 : ∀ a : List Int, a.length = N → body a = some (.inr (.brk a))) : ∀ (d : Nat) (a : List Int), m ≤ a.length → a.length + d = N → run body a = some (.brk (a ++ List.replicate d 0))
  | 0, a, _, h => by rw [run_done (h2 a (by omega))]; simp
  | d + 1, a, hl, h => by
    rw [run_next (h1 a hl (by omega)), run_padM N m hm h1 h2 d _ (by simp; omega) (by simp; omega), List.replicate_succ, List.append_assoc]
    rfl
theorem trimL_pad (xs : List Int) (k : Nat) : trimL (xs ++ List.replicate k 0) = trimL xs := by
  induction k with
  | zero => simp
  | succ k ih => rw [List.replicate_succ', ← List.append_assoc, trimL_snoc, if_pos rfl, ih]
theorem trimL_back (xs : List Int) : trimL xs ++ List.replicate (xs.length - (trimL xs).length) 0 = xs := by
  have hl := trimL_len xs
  apply List.ext_getElem
  · simp; omega
  · intro i h1 h2
    have e := trimL_getD xs i
    rw [getD_in h2] at e
    rw [List.getElem_append]
    split
    · rename_i h3
      rw [← e, getD_in h3]
    · rename_i h3
      rw [List.getElem_replicate, ← e, getD_out h3]
theorem getD_pad (xs : List Int) (k j : Nat) : (xs ++ List.replicate k 0).getD j 0 = xs.getD j 0 := by
  rw [List.getD_eq_getElem?_getD, List.getD_eq_getElem?_getD, List.getElem?_append]
  split
  · rfl
  · rename_i h
    rw [List.getElem?_eq_none (by omega : xs.length ≤ j), List.getElem?_replicate]
    split <;> rfl
theorem getD_rev (xs : List Int) {j : Nat} (h : j < xs.length) : xs.reverse.getD j 0 = xs.getD (xs.length - 1 - j) 0 := by
  rw [getD_in (by simpa using h), getD_in (by omega), List.getElem_reverse]
theorem chV_congr {f g : Nat → Nat} {xs ys : List Int} : ∀ {B : Nat}, (∀ j, j < B → xs.getD (f j) 0 = ys.getD (g j) 0) → chV f xs B = chV g ys B
  | 0, _ => rfl
  | B + 1, h => by rw [chV_succ, chV_succ, chV_congr (fun j hj => h j (by omega)), h B (by omega)]
theorem all_rev {N : Nat} (p : Nat → Bool) : (List.range N).all (fun k => p (N - 1 - k)) = (List.range N).all p := by
  rw [Bool.eq_iff_iff, List.all_eq_true, List.all_eq_true]
  constructor
  · intro h k hk
    have hk := List.mem_range.1 hk
    have := h (N - 1 - k) (List.mem_range.2 (by omega))
    rwa [show N - 1 - (N - 1 - k) = k by omega] at this
  · intro h k hk
    have hk := List.mem_range.1 hk
    exact h _ (List.mem_range.2 (by omega))
theorem symsOf_rev {g g' : Nat → Int} {N : Nat} {S : Int} (h : ∀ k, k < N → g' k = g (N - 1 - k)) : symsOf g' N S = (symsOf g N S).map List.reverse := by
  have e1 : (List.range N).all (fun k => decide (g' k < S)) = (List.range N).all (fun k => decide (g k < S)) := by
    rw [← all_rev (fun k => decide (g k < S))]
    rw [Bool.eq_iff_iff, List.all_eq_true, List.all_eq_true]
    exact ⟨fun H k hk => by have := H k hk; rwa [h k (List.mem_range.1 hk)] at this, fun H k hk => by have := H k hk; rwa [← h k (List.mem_range.1 hk)] at this⟩
  have e2 : (List.range N).map g' = ((List.range N).map g).reverse := by
    apply List.ext_getElem
    · simp
    · intro i h1 h2
      have hi : i < N := by simpa using h1
      rw [List.getElem_reverse, List.getElem_map, List.getElem_map, List.getElem_range, List.getElem_range, h i hi]
      congr 1
      simp
  unfold symsOf
  rw [e1, e2]
  split <;> rfl
theorem impl_symsL {xs : List Int} (hx : BitRow xs) {B : Nat} (hB1 : 1 ≤ B) (hB : B ≤ 3) (S : Int) (h : xs.length ≤ 300) : F_impl_decodedLeft xs (B : Int) S = some (symOut (symsL xs B S)) := by
  unfold F_impl_decodedLeft
  have hn := nCh_le (len := xs.length) hB1
  have hm := nCh_mul (len := xs.length) hB1
  obtain ⟨N, hN⟩ : ∃ N, nCh xs.length B = N := ⟨_, rfl⟩
  have hlt : ∀ k, k < N ↔ k * B < xs.length := fun k => by rw [← hN]; exact lt_nCh hB1
  rw [hN] at hn hm
  have hNB : N * B ≤ 900 := by
    have := Nat.mul_le_mul hn hB
    omega
  have hpre : N * B < xs.length + B := by
    rcases Nat.eq_zero_or_pos N with h0 | h0
    · subst h0; omega
    · have := (hlt (N - 1)).1 (by omega)
      have e : N * B = (N - 1) * B + B := by rw [← Nat.succ_mul]; congr 1; omega
      omega
  have hp := run_padM (body := F_impl_decodedLeft_L1 (B : Int)) (N * B) xs.length (by omega) (fun a hl ha => by
    have e : Int.tmod (a.length : Int) (B : Int) ≠ 0 := by
      rw [← Int.ofNat_tmod]
      intro h0
      have h0 : a.length % B = 0 := by exact_mod_cast h0
      obtain ⟨q, hq⟩ := Nat.dvd_of_mod_eq_zero h0
      have h1 : q < N := Nat.lt_of_mul_lt_mul_left (a := B) (by rw [← hq, Nat.mul_comm B N]; exact ha)
      have h2 := kB_le (B := B) h1
      rw [Nat.add_mul, Nat.mul_comm q B, ← hq] at h2
      omega
    unfold F_impl_decodedLeft_L1 F_impl_size_int64 nz
    simp only [bnd_some_eq]
    rw [if_neg (by omega), bnd_some_eq, decide_eq_true e, cond_true, app_ok (by simp; omega), bnd_some_eq]) (fun a ha => by
    have e : Int.tmod (a.length : Int) (B : Int) = 0 := by
      rw [← Int.ofNat_tmod, ha, Nat.mul_mod_left]
      rfl
    unfold F_impl_decodedLeft_L1 F_impl_size_int64 nz
    simp only [bnd_some_eq]
    rw [if_neg (by omega), bnd_some_eq, decide_eq_false (by omega), cond_false]) (N * B - xs.length) xs (Nat.le_refl _) (by omega)
  rw [impl_clone' _ (by omega), bnd_some_eq, hp, bnd_some_eq]
  simp only [Out.elim]
  obtain ⟨zs, hz⟩ : ∃ zs, xs ++ List.replicate (N * B - xs.length) (0 : Int) = zs := ⟨_, rfl⟩
  have hzl : zs.length = N * B := by rw [← hz]; simp; omega
  have hzg : ∀ j, zs.getD j 0 = xs.getD j 0 := fun j => by rw [← hz, getD_pad]
  have hzr : BitRow zs.reverse := fun j => by
    by_cases hj : j < zs.length
    · rw [getD_rev _ hj, hzg]; exact hx _
    · rw [getD_out (by simpa using hj)]; omega
  rw [hz, impl_reversed _ (by omega), bnd_some_eq, impl_symsR hzr hB1 hB S (by simp; omega), bnd_some_eq]
  have eq : symsR zs.reverse B S = (symsL xs B S).map List.reverse := by
    unfold symsR symsL
    rw [List.length_reverse, hzl, nCh_self hB1, hN]
    apply symsOf_rev
    intro k hk
    apply chV_congr
    intro j hj
    have h1 := kB_le (B := B) hk
    rw [Nat.add_mul] at h1
    have e : N * B = (N - 1 - k) * B + (k * B + B) := by
      rw [← Nat.succ_mul, ← Nat.add_mul]
      congr 1
      omega
    rw [getD_rev _ (by rw [hzl]; omega), hzg, hzl]
    congr 1
    omega
  rw [eq]
  cases hs : symsL xs B S with
  | none => rfl
  | some l =>
    have hl : l.length = N := by
      rw [← hN]
      exact symsOf_len hs
    simp only [Option.map_some, symOut, Bool.not_true, cond_false]
    have ht := trimL_len l.reverse
    rw [List.length_reverse] at ht
    have hd : Int.tdiv ((N * B : Nat) : Int) (B : Int) = (N : Int) := by
      rw [← Int.ofNat_tdiv, Nat.mul_div_cancel _ (by omega : 0 < B)]
    have hp2 := run_pad (body := F_impl_decodedLeft_L2 (B : Int) zs) N (by omega) (fun a ha => by
      unfold F_impl_decodedLeft_L2 F_impl_size_int64 nz
      simp only [bnd_some_eq, hzl, hd]
      rw [if_neg (by omega), bnd_some_eq, w64_in (by omega) (by omega), decide_eq_true (by omega), cond_true, app_ok (by simp; omega), bnd_some_eq]) (fun a ha => by
      unfold F_impl_decodedLeft_L2 F_impl_size_int64 nz
      simp only [bnd_some_eq, hzl, hd]
      rw [if_neg (by omega), bnd_some_eq, w64_in (by omega) (by omega), decide_eq_false (by omega), cond_false]) (N - (trimL l.reverse).length) (trimL l.reverse) (by omega)
    have eb := trimL_back l.reverse
    rw [List.length_reverse, hl] at eb
    rw [hp2, bnd_some_eq, eb]
    simp only [Out.elim]
    rw [impl_reversed _ (by simp; omega), bnd_some_eq, List.reverse_reverse, impl_trimmed _ (by omega), bnd_some_eq]
theorem slcD_from {α : Type} {xs : List α} {lo : Nat} (h : lo ≤ xs.length) : slc xs (lo : Int) (xs.length : Int) = some (xs.drop lo) := by
  rw [slc_ok h (Nat.le_refl _), List.take_length]
def tkN (xs : List Int) (k : Nat) : List Int := (List.range k).map fun j => xs.getD j 0
theorem tkN_succ (xs : List Int) (k : Nat) : tkN xs (k + 1) = tkN xs k ++ [xs.getD k 0] := by unfold tkN; rw [List.range_succ, List.map_append]; rfl
theorem tkN_len (xs : List Int) (k : Nat) : (tkN xs k).length = k := by simp [tkN]
theorem tkN_take (xs : List Int) (k : Nat) : (xs ++ List.replicate (k - xs.length) 0).take k = tkN xs k := by
  apply List.ext_getElem
  · simp [tkN]; omega
  · intro i h1 h2
    rw [tkN_len] at h2
    rw [List.getElem_take, ← getD_in, getD_pad]
    simp [tkN]
theorem tkN_drop (xs : List Int) (k : Nat) : (xs ++ List.replicate (k - xs.length) 0).drop k = xs.drop k := by
  rcases Nat.lt_or_ge k xs.length with h | h
  · rw [show k - xs.length = 0 by omega]; simp
  · rw [List.drop_eq_nil_of_le (by simp; omega), List.drop_eq_nil_of_le h]
theorem bit_side {s : Int} {xs : List Int} (hs : s = 2) (h : sideB s xs = true) : BitRow xs := by
  unfold sideB at h
  simp only [Bool.and_eq_true, List.all_eq_true] at h
  intro j
  by_cases hj : j < xs.length
  · rw [getD_in hj]
    have := inB_iff.1 (h.1.2 _ (List.getElem_mem hj))
    omega
  · rw [getD_out hj]; omega
theorem bit_drop {xs : List Int} (h : BitRow xs) (k : Nat) : BitRow (xs.drop k) := fun j => by
  have e : (xs.drop k).getD j 0 = xs.getD (k + j) 0 := by rw [List.getD_eq_getElem?_getD, List.getElem?_drop, List.getD_eq_getElem?_getD]
  rw [e]; exact h _
theorem bit_front {xs ys : List Int} (h : BitRow xs) (k : BitRow ys) (n : Nat) : BitRow ((tkN xs n).reverse ++ ys) := fun j => by
  by_cases hj : j < n
  · rw [List.getD_eq_getElem?_getD, List.getElem?_append_left (by simp [tkN_len]; omega), ← List.getD_eq_getElem?_getD, getD_rev _ (by rw [tkN_len]; omega), tkN_len, getD_in (by rw [tkN_len]; omega)]
    simp only [tkN, List.getElem_map, List.getElem_range]
    exact h _
  · rw [List.getD_eq_getElem?_getD, List.getElem?_append_right (by simp [tkN_len]; omega), ← List.getD_eq_getElem?_getD]
    exact k _
theorem ex_DecodeBinary (m : GMachine) (c : GConfig) (s0 : Sml m) (s1 : Sml c) :
    ∃ w : GConfig × Int, F_spec_DecodeBinary m c = some w ∧ F_impl_DecodeBinary m c = some w ∧ Med w.1 ∧ Cnt.cnt w.1.Left + Cnt.cnt w.1.Right ≤ 1152921504606846976 := by
  have nil : ∀ k : Int, Med (((⟨0, [], []⟩ : GConfig), k) : GConfig × Int).1 ∧ Cnt.cnt (((⟨0, [], []⟩ : GConfig), k) : GConfig × Int).1.Left + Cnt.cnt (((⟨0, [], []⟩ : GConfig), k) : GConfig × Int).1.Right ≤ 1152921504606846976 := fun k => conf_fit (Nat.zero_le _) (Nat.zero_le _)
  unfold F_spec_DecodeBinary F_impl_DecodeBinary
  rw [spec_mach m s0, impl_mach m s0, bnd_some_eq, bnd_some_eq]
  cases hm : machB m
  · exact ⟨_, rfl, rfl, nil _⟩
  simp only [Bool.not_true, cond_false, bnd_some_eq]
  obtain ⟨s, q, M⟩ := machB_mai hm
  have hs := M.hs
  have hq := M.hq
  have b3 := M.b3
  obtain ⟨hB1, hB3⟩ := @bitsN_in s
  have hst : binV m q (bitsN s) ⟨0, 0, 0, 0⟩ := binV_start hB1 (by omega)
  have hsp := sp_run (R0 := Option (GConfig × Int)) (fail := some ((⟨0, [], []⟩ : GConfig), 5)) (by omega : 2 ≤ 100) (bin_mv M) (bin_act M) 1002 0 [] [⟨0, 0, 0, 0⟩] (by omega) (by omega) (by simp) (av_one hst) (by simp)
  have him := im_run (R0 := Option (GConfig × Int)) (fail := some ((⟨0, [], []⟩ : GConfig), 5)) (by omega : 2 ≤ 100) (bin_at M) (bin_act M) 1002 0 [] [⟨0, 0, 0, 0⟩] (mput [] ⟨0, 0, 0, 0⟩ 0) (by omega) (by omega) (by simp) (av_one hst) (num_one _) (by simp)
  have e1 : F_spec_DecodeBinary_L1 m = spL1 (some ((⟨0, [], []⟩ : GConfig), 5)) ((2 : Nat) : Int) (F_spec_l13Binary m) := rfl
  have e2 : F_impl_DecodeBinary_L1 m ((bitsN s : Nat) : Int) = imL1 (some ((⟨0, [], []⟩ : GConfig), 5)) ((2 : Nat) : Int) (fun p v => F_impl_binary_1 p v m ((bitsN s : Nat) : Int)) (fun a => a.none) (fun a => a.write) (fun a => a.move) (fun a => (⟨a.next_kind, a.next_a, a.next_b, a.next_c⟩ : GbitPlace)) := rfl
  have e3 : app ([] : List GbitPlace) [(⟨0, 0, 0, 0⟩ : GbitPlace)] = some [⟨0, 0, 0, 0⟩] := rfl
  rw [e1, impl_bits M, bnd_some_eq]
  simp only [F_impl_startOf, bnd_some_eq]
  rw [e2, e3]
  simp only [mget_nil, Option.isSome_none, Bool.not_false, cond_true, bnd_some_eq, Out.elim, F_impl_size_impl_bitPlace, List.length_nil]
  simp only [List.map_cons, List.map_nil] at hsp
  have ez : ((0 : Nat) : Int) = 0 := rfl
  rw [ez] at hsp him ⊢
  have ef : binE ⟨0, 0, 0, 0⟩ = [0, 0, 0, 0] := rfl
  rw [ef] at hsp
  rw [hsp]
  cases hb : buildA (binA m s (bitsN s)) 2 1002 0 ([], [(⟨0, 0, 0, 0⟩ : GbitPlace)]) with
  | none =>
    rw [hb] at him
    simp only at him
    rw [him]
    exact ⟨_, rfl, rfl, nil _⟩
  | some st =>
    rw [hb] at him
    obtain ⟨nums, him, hN, hV, hl, hr⟩ := him
    rw [him]
    simp only [bnd_some_eq, Out.elim]
    have hl' : (st.2.map binE).length = st.2.length := List.length_map _
    have hg1 : 0 ≤ (2 : Int) ∧ (2 : Int) ≤ 1000000 := by omega
    have hg2 : 0 ≤ (st.2.length : Int) ∧ (st.2.length : Int) ≤ 1000000 := by omega
    rw [hl', spec_good _ _ hg1 hg2 s1, bnd_some_eq, impl_confOf _ _ hg1 hg2 s1, bnd_some_eq]
    cases hc : confB (⟨2, (st.2.length : Int), st.1⟩ : GMachine) c
    · exact ⟨_, rfl, rfl, nil _⟩
    simp only [Bool.not_true, cond_false]
    have hlen := confB_len hc
    obtain ⟨hcL, hcR⟩ : BitRow c.Left ∧ BitRow c.Right := by
      unfold confB at hc
      simp only [Bool.and_eq_true] at hc
      exact ⟨bit_side rfl hc.2.1, bit_side rfl hc.2.2⟩
    obtain ⟨t, ht⟩ : ∃ t : Nat, c.State = t := ⟨c.State.toNat, by omega⟩
    have htl : t < st.2.length := by have := hlen.2.2.2; simp only at this; omega
    have htl' : t < (st.2.map binE).length := by rw [hl']; exact htl
    rw [ht, idx_nat htl', bnd_some_eq, idx_nat htl, bnd_some_eq, List.getElem_map]
    have hpv := hV _ (List.getElem_mem htl)
    have hk : ∀ p : GbitPlace, idx (binE p) 0 = some p.kind := fun p => by
      unfold binE
      split <;> rfl
    rw [hk, bnd_some_eq]
    have e22 : w64 (w64 (2 : Int)) = 2 := rfl
    rcases hpv with ⟨a, b, cc, hp, ha, hb', hcc, _, _⟩ | ⟨a, b, hp, _⟩ | ⟨a, b, hp, _⟩
    · rw [hp]
      have kf : decide ((0 : Int) ≠ 0) = false := rfl
      have eE : binE ⟨0, (a : Int), (b : Int), (cc : Int)⟩ = [0, (a : Int), (b : Int), (cc : Int)] := rfl
      have i1 : idx [0, (a : Int), (b : Int), (cc : Int)] 1 = some (a : Int) := rfl
      have i2 : idx [0, (a : Int), (b : Int), (cc : Int)] 2 = some (b : Int) := rfl
      simp only [kf, cond_false, eE, i1, i2, bnd_some_eq, Out.elim]
      rw [spec_own' _ (by omega), bnd_some_eq, impl_clone' _ (by omega), bnd_some_eq, impl_clone' _ (by omega), bnd_some_eq]
      have hpad : run (F_spec_DecodeBinary_L4 (b : Int)) c.Left = some (.brk (c.Left ++ List.replicate (b - c.Left.length) 0)) := by
        rcases Nat.lt_or_ge c.Left.length b with h | h
        · refine run_padM b c.Left.length (.inl h) (fun a hl ha => ?_) (fun a ha => ?_) (b - c.Left.length) c.Left (Nat.le_refl _) (by omega)
          · simp only [F_spec_DecodeBinary_L4, Int.ofNat_lt, ha, decide_true, cond_true, app_ok (show a.length + ([0] : List Int).length ≤ 1099511627776 by simp; omega), bnd_some_eq]
          · simp only [F_spec_DecodeBinary_L4, Int.ofNat_lt, ha, Nat.lt_irrefl, decide_false, cond_false]
        · rw [show b - c.Left.length = 0 by omega]
          simp only [List.replicate_zero, List.append_nil]
          exact run_done (by simp only [F_spec_DecodeBinary_L4, Int.ofNat_lt, show ¬ c.Left.length < b by omega, decide_false, cond_false])
      have hloop : run (F_impl_DecodeBinary_L3 ((0 : Int), (a : Int), (b : Int), (cc : Int), ((bitsN s : Nat) : Int))) (c.Left, c.Right, 0) = some (.brk (c.Left.drop b, (tkN c.Left b).reverse ++ c.Right, (b : Int))) := by
        have : ∀ k, k ≤ b → run (F_impl_DecodeBinary_L3 ((0 : Int), (a : Int), (b : Int), (cc : Int), ((bitsN s : Nat) : Int))) (c.Left, c.Right, 0) = run (F_impl_DecodeBinary_L3 ((0 : Int), (a : Int), (b : Int), (cc : Int), ((bitsN s : Nat) : Int))) (c.Left.drop k, (tkN c.Left k).reverse ++ c.Right, (k : Int)) := by
          intro k
          induction k with
          | zero => intro _; rfl
          | succ k ih =>
            intro hk
            rw [ih (by omega)]
            have hkb : k < b := by omega
            apply run_next
            have hj : ∀ x : Int, F_impl_joined [[x], (tkN c.Left k).reverse ++ c.Right] = some ([x] ++ ((tkN c.Left k).reverse ++ c.Right)) := fun x => by
              rw [impl_joined _ (by simp) (by simp [tkN_len]; omega)]
              simp
            have hw := w64_nat1 (show k < 4611686018427387904 by omega)
            rw [tkN_succ, List.reverse_append]
            simp only [F_impl_DecodeBinary_L3, Int.ofNat_lt, hkb, decide_true, cond_true]
            by_cases hkl : k < c.Left.length
            · have e0 : idx (c.Left.drop k) 0 = some (c.Left.getD k 0) := by
                rw [List.drop_eq_getElem_cons hkl, getD_in hkl]
                rfl
              have e1 : slc (c.Left.drop k) 1 ((c.Left.drop k).length : Int) = some (c.Left.drop (k + 1)) := by
                have := slcD_from (xs := c.Left.drop k) (lo := 1) (by simp; omega)
                rw [List.drop_drop] at this
                exact this
              rw [decide_eq_true (by simp; omega), cond_true, e0, bnd_some_eq, e1, bnd_some_eq, hj, bnd_some_eq, hw]
              rfl
            · have e0 : c.Left.drop k = [] := List.drop_eq_nil_of_le (by omega)
              have e1 : c.Left.drop (k + 1) = [] := List.drop_eq_nil_of_le (by omega)
              rw [decide_eq_false (by rw [e0]; simp), cond_false, hj, bnd_some_eq, hw, e0, e1, getD_out hkl]
              rfl
        rw [this b (Nat.le_refl _), run_done (x := .brk (c.Left.drop b, (tkN c.Left b).reverse ++ c.Right, (b : Int))) (by simp only [F_impl_DecodeBinary_L3, Int.lt_irrefl, decide_false, cond_false])]
      have hpl : b ≤ (c.Left ++ List.replicate (b - c.Left.length) (0 : Int)).length := by simp; omega
      have sl0 : slc (c.Left ++ List.replicate (b - c.Left.length) (0 : Int)) 0 (b : Int) = some (tkN c.Left b) := by
        have := slc_ok (xs := c.Left ++ List.replicate (b - c.Left.length) (0 : Int)) (lo := 0) (hi := b) (by omega) hpl
        rw [tkN_take] at this
        exact this
      rw [hpad, hloop]
      simp only [bnd_some_eq, Out.elim]
      have hD : BitRow (c.Left.drop b) := bit_drop hcL b
      have hF : BitRow ((tkN c.Left b).reverse ++ c.Right) := bit_front hcL hcR b
      have lD : (c.Left.drop b).length ≤ 200 := by simp; omega
      have lF : ((tkN c.Left b).reverse ++ c.Right).length ≤ 210 := by simp [tkN_len]; omega
      rw [sl0, bnd_some_eq, spec_reverse _ (by rw [tkN_len]; omega), bnd_some_eq, app_ok (by simp [tkN_len]; omega), bnd_some_eq, spec_bits M, bnd_some_eq, slcD_from hpl, bnd_some_eq, tkN_drop, spec_symsT hD hB1 hB3 _ (by omega), bnd_some_eq, spec_symsF hF hB1 hB3 _ (by omega), bnd_some_eq, impl_symsL hD hB1 hB3 _ (by omega), bnd_some_eq, impl_symsR hF hB1 hB3 _ (by omega), bnd_some_eq]
      cases hx : symsL (c.Left.drop b) (bitsN s) m.Symbols with
      | none => exact ⟨_, rfl, rfl, nil _⟩
      | some x =>
        cases hy : symsR ((tkN c.Left b).reverse ++ c.Right) (bitsN s) m.Symbols with
        | none => exact ⟨_, rfl, rfl, nil _⟩
        | some y =>
          have k1 := symsOf_len hx
          have k2 := symsOf_len hy
          have k3 := nCh_le (len := (c.Left.drop b).length) hB1
          have k4 := nCh_le (len := ((tkN c.Left b).reverse ++ c.Right).length) hB1
          have k5 := trimL_len x
          have k6 := trimL_len y
          exact ⟨_, rfl, rfl, conf_fit (by simp only [symOut]; omega) (by simp only [symOut]; omega)⟩
    · rw [hp]
      exact ⟨_, rfl, rfl, nil _⟩
    · rw [hp]
      exact ⟨_, rfl, rfl, nil _⟩
theorem law_DecodeBinary (m : GMachine) (c : GConfig) (w0 : Wf.wf m) (w1 : Wf.wf c) : F_laws_FnExactDecodeBinary m c = some true :=
  lawof_DecodeBinary m c w0 w1 (ex_DecodeBinary m c)
end Go.Fn
