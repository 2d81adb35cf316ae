/-
  Plain laws, part 1. No program in sight. No condition.
-/
import Derived.Test.YtgpimmdigeobbaaHelp
import Derived.Test.YtgpimmdigeobbaaLaw
import Derived.Test.YtgpimmdigeobbaaFn
import Derived.Test.YtgpimmdigeobbaaPure
import Derived.Test.YtgpimmdigeobbaaWf
namespace Go.Fn
open Go Go.Tc
theorem spec_in (x lo hi : Int) : F_spec_l00In x lo hi = some (inB x lo hi) := by
 unfold F_spec_l00In inB
 cases decide (lo ≤ x) <;> rfl
theorem impl_in (x lo hi : Int) : F_impl_within x lo hi = some (inB x lo hi) := by
 unfold F_impl_within inB
 cases decide (lo ≤ x) <;> rfl
theorem impl_allWithin (xs : List Int) (lo hi : Int) (h : xs.length ≤ 1048576) : F_impl_allWithin xs lo hi = some (xs.all fun x => inB x lo hi) := by
 unfold F_impl_allWithin
 rw [run_all xs.length (by omega) (fun i => inB (xs.getD i 0) lo hi) (.ret false) (.brk (xs.length : Int)) ?_ ?_ ?_]
 ·have : (∀ i, i < xs.length → inB (xs.getD i 0) lo hi = true) ↔ (xs.all fun x => inB x lo hi) = true := by
   rw [List.all_eq_true]
   constructor
   ·intro h x hx
    obtain ⟨i, hi, rfl⟩ := List.getElem_of_mem hx
    simpa [hi] using h i hi
   ·intro h i hi
    simpa [hi] using h _ (List.getElem_mem hi)
  by_cases e : (xs.all fun x => inB x lo hi) = true
  ·rw [if_pos (this.2 e), e]; rfl
  ·rw [if_neg (fun k => e (this.1 k))]
   simp only [Bool.not_eq_true] at e
   rw [e]; rfl
 ·intro i hi hp
  simp only [List.getD_eq_getElem?_getD, List.getElem?_eq_getElem hi, Option.getD_some] at hp
  simp [F_impl_allWithin_L1, hi, idx_nat hi, impl_in, hp]
 ·intro i hi hp
  simp only [List.getD_eq_getElem?_getD, List.getElem?_eq_getElem hi, Option.getD_some] at hp
  simp [F_impl_allWithin_L1, hi, idx_nat hi, impl_in, hp]
 ·simp [F_impl_allWithin_L1]
end Go.Fn
namespace Go.Fn
open Go Go.Tc
theorem idx_last {xs : List Int} (h0 : xs.length ≠ 0) (h : xs.length ≤ 1048576) : idx xs (w64 ((xs.length : Int) - 1)) = some (xs.getLastD 0) := by
 rw [w64_in (by omega) (by omega), show (xs.length : Int) - 1 = ((xs.length - 1 : Nat) : Int) by omega, idx_nat (by omega)]
 congr 1
 rw [List.getLastD_eq_getLast?, List.getLast?_eq_getElem?, List.getElem?_eq_getElem (by omega)]
 rfl
theorem any_not {α : Type} (xs : List α) (p : α → Bool) : (!(xs.any fun x => !p x)) = xs.all p := by
 rw [List.not_any_eq_all_not]
 simp
end Go.Fn
namespace Go.Tc
open Go
theorem run_rowf {α σ S X : Type} {body : S → Option (S ⊕ X)} (xs : List α) (hn : xs.length ≤ 4611686018427387903) (st : σ → Int → S) (f : σ → α → σ) (I : Nat → σ → Prop)
  (h : ∀ (i : Nat) (hi : i < xs.length) (a : σ), I i a → body (st a (i : Int)) = some (.inl (st (f a xs[i]) (w64 ((i : Int) + 1)))) ∧ I (i + 1) (f a xs[i])) (a0 : σ) (h0 : I 0 a0) :
  run body (st a0 0) = run body (st (xs.foldl f a0) (xs.length : Int)) ∧ I xs.length (xs.foldl f a0) := by
 have key : ∀ k i a, i + k = xs.length → I i a → run body (st a (i : Int)) = run body (st ((xs.drop i).foldl f a) (xs.length : Int)) ∧ I xs.length ((xs.drop i).foldl f a) := by
  intro k
  induction k with
  | zero =>
   intro i a hi hI
   obtain rfl : i = xs.length := by omega
   rw [List.drop_length]
   exact ⟨rfl, hI⟩
  | succ k ih =>
   intro i a hi hI
   have hlt : i < xs.length := by omega
   obtain ⟨e, hI'⟩ := h i hlt a hI
   rw [run_next e, w64_nat1 (by omega), List.drop_eq_getElem_cons hlt, List.foldl_cons]
   exact ih (i + 1) _ (by omega) hI'
 have := key xs.length 0 a0 (by omega) h0
 rwa [List.drop_zero, show ((0 : Nat) : Int) = 0 from rfl] at this
theorem w64_add {n m : Nat} (h : n + m ≤ 4611686018427387904) : w64 ((n : Int) + (m : Int)) = ((n + m : Nat) : Int) := by
 rw [w64_in (by omega) (by omega)]
 omega
end Go.Tc
namespace Go.Tc
open Go
theorem w64_mul {n m : Nat} (h : n * m ≤ 4611686018427387904) : w64 ((n : Int) * (m : Int)) = ((n * m : Nat) : Int) := by
 rw [← Int.natCast_mul]
 exact w64_in (by omega) (by omega)
end Go.Tc
namespace Go.Fn
open Go Go.Tc
def noR : GRule := ⟨0, 0, -1⟩
def ruleB (s q : Int) (r : GRule) : Bool := decide (r = noR) || (inB r.Write 0 (s - 1) && ((decide (r.Move = 1) || decide (r.Move = -1)) && inB r.Next 0 (q - 1)))
def machB (m : GMachine) : Bool := inB m.Symbols 2 6 && inB m.States 1 1000 && decide ((m.Rules.length : Int) = m.Symbols * m.States) && m.Rules.all (ruleB m.Symbols m.States)
theorem inB_iff {x lo hi : Int} : inB x lo hi = true ↔ lo ≤ x ∧ x ≤ hi := by
 unfold inB
 simp only [Bool.and_eq_true, decide_eq_true_eq]
theorem spec_rule (r : GRule) (s q : Int) (hs : 0 ≤ s ∧ s ≤ 1000000) (hq : 0 ≤ q ∧ q ≤ 1000000) : F_spec_l05Rule r s q = some (ruleB s q r) := by
 unfold F_spec_l05Rule F_spec_l05None ruleB noR
 rw [w64_in (by omega) (by omega), w64_in (by omega) (by omega)]
 simp only [bnd_some_eq, spec_in]
 cases decide (r = ⟨0, 0, -1⟩)
 ·cases inB r.Write 0 (s - 1)
  ·rfl
  cases decide (r.Move = 1)
  ·cases decide (r.Move = -1) <;> rfl
  ·rfl
 ·rfl
theorem impl_rule (m : GMachine) (r : GRule) (hs : 0 ≤ m.Symbols ∧ m.Symbols ≤ 1000000) (hq : 0 ≤ m.States ∧ m.States ≤ 1000000) : F_impl_validRule m r = some (ruleB m.Symbols m.States r) := by
 unfold F_impl_validRule F_impl_isRule F_impl_noRule ruleB noR
 rw [w64_in (by omega) (by omega), w64_in (by omega) (by omega)]
 simp only [bnd_some_eq, impl_in]
 cases decide (r = ⟨0, 0, -1⟩)
 ·cases inB r.Write 0 (m.Symbols - 1)
  ·rfl
  cases decide (r.Move = 1)
  ·cases decide (r.Move = -1) <;> rfl
  ·cases decide (r.Move = -1) <;> rfl
 ·rfl
theorem sq_in {s q : Int} (hs : 2 ≤ s ∧ s ≤ 6) (hq : 1 ≤ q ∧ q ≤ 1000) : 0 ≤ s * q ∧ s * q ≤ 6000 := by
 refine ⟨Int.mul_nonneg (by omega) (by omega), ?_⟩
 have h1 : s * q ≤ 6 * q := Int.mul_le_mul_of_nonneg_right hs.2 (by omega)
 omega
theorem spec_mach (m : GMachine) (h : Sml m) : F_spec_l05Is m = some (machB m) := by
 have h1 : m.Rules.length ≤ 1048576 := h.1
 unfold F_spec_l05Is machB
 simp only [bnd_some_eq, spec_in]
 cases hS : inB m.Symbols 2 6
 ·rfl
 cases hQ : inB m.States 1 1000
 ·rfl
 rw [inB_iff] at hS hQ
 have hm := sq_in hS hQ
 rw [w64_in (by omega) (by omega)]
 by_cases hl : (m.Rules.length : Int) = m.Symbols * m.States
 ·rw [decide_eq_true hl, decide_eq_false (by omega : ¬ (m.Rules.length : Int) ≠ m.Symbols * m.States)]
  simp only [Bool.not_true, cond_false, bnd_some_eq, Out.elim, Bool.true_and]
  rw [run_allp m.Rules (by omega) (ruleB m.Symbols m.States) (.ret false) (.brk (m.Rules.length : Int)) (fun i hi => by
   simp only [F_spec_l05Is_L1, Int.ofNat_lt, hi, decide_true, cond_true, idx_nat hi, bnd_some_eq, spec_rule _ _ _ (by omega : 0 ≤ m.Symbols ∧ m.Symbols ≤ 1000000) (by omega : 0 ≤ m.States ∧ m.States ≤ 1000000)]
   cases ruleB m.Symbols m.States m.Rules[i] <;> rfl) (by simp [F_spec_l05Is_L1])]
  cases m.Rules.all (ruleB m.Symbols m.States) <;> rfl
 ·rw [decide_eq_false hl, decide_eq_true (show (m.Rules.length : Int) ≠ m.Symbols * m.States from hl)]
  rfl
theorem impl_mach (m : GMachine) (h : Sml m) : F_impl_ValidMachine m = some (machB m) := by
 have h1 : m.Rules.length ≤ 1048576 := h.1
 unfold F_impl_ValidMachine F_impl_size_impl_Rule machB F_slices_ContainsFunc_Simpl_Rule_impl_Rule F_slices_IndexFunc_Simpl_Rule_impl_Rule
 simp only [bnd_some_eq, impl_in]
 cases hS : inB m.Symbols 2 6
 ·rfl
 cases hQ : inB m.States 1 1000
 ·rfl
 rw [inB_iff] at hS hQ
 have hm := sq_in hS hQ
 rw [Int.mul_comm m.States m.Symbols, w64_in (by omega) (by omega)]
 by_cases hl : (m.Rules.length : Int) = m.Symbols * m.States
 ·rw [decide_eq_true hl, decide_eq_false (by omega : ¬ (m.Rules.length : Int) ≠ m.Symbols * m.States)]
  simp only [Bool.not_true, cond_false, bnd_some_eq, Bool.true_and]
  rw [run_find m.Rules (by omega) (fun x => !ruleB m.Symbols m.States x) (fun i hi => by
   simp only [F_slices_IndexFunc_Simpl_Rule_impl_Rule_L1, F_impl_ValidMachine_1, Int.ofNat_lt, hi, decide_true, cond_true, idx_nat hi, bnd_some_eq, impl_rule m _ (by omega : 0 ≤ m.Symbols ∧ m.Symbols ≤ 1000000) (by omega : 0 ≤ m.States ∧ m.States ≤ 1000000)]
   cases ruleB m.Symbols m.States m.Rules[i] <;> rfl) (by simp [F_slices_IndexFunc_Simpl_Rule_impl_Rule_L1])]
  simp only [bnd_some_eq]
  rw [find_any, any_not]
 ·rw [decide_eq_false hl, decide_eq_true (show (m.Rules.length : Int) ≠ m.Symbols * m.States from hl)]
  rfl
theorem machB_nat {m : GMachine} (h : machB m = true) : ∃ s q : Nat, m.Symbols = s ∧ m.States = q ∧ 2 ≤ s ∧ s ≤ 6 ∧ 1 ≤ q ∧ q ≤ 1000 ∧ m.Rules.length = q * s ∧ q * s ≤ 6000 ∧ ∀ r ∈ m.Rules, ruleB m.Symbols m.States r = true := by
 unfold machB at h
 simp only [Bool.and_eq_true, decide_eq_true_eq, inB_iff] at h
 obtain ⟨⟨⟨hs, hq⟩, hl⟩, ha⟩ := h
 have hm := sq_in hs hq
 refine ⟨m.Symbols.toNat, m.States.toNat, by omega, by omega, by omega, by omega, by omega, by omega, ?_, ?_, List.all_eq_true.1 ha⟩
 ·have : ((m.States.toNat * m.Symbols.toNat : Nat) : Int) = m.Symbols * m.States := by
   rw [Int.natCast_mul, Int.toNat_of_nonneg (by omega), Int.toNat_of_nonneg (by omega), Int.mul_comm]
  omega
 ·have : ((m.States.toNat * m.Symbols.toNat : Nat) : Int) = m.Symbols * m.States := by
   rw [Int.natCast_mul, Int.toNat_of_nonneg (by omega), Int.toNat_of_nonneg (by omega), Int.mul_comm]
  omega
theorem at_lt {p a s q : Nat} (hp : p < q) (ha : a < s) : p * s + a < q * s := by
 have : (p + 1) * s ≤ q * s := Nat.mul_le_mul_right s hp
 rw [Nat.succ_mul] at this
 omega
end Go.Fn
namespace Go.Fn
open Go Go.Tc
def trimL (xs : List Int) : List Int := (xs.reverse.dropWhile fun x => decide (x = 0)).reverse
theorem trimL_snoc (ys : List Int) (y : Int) : trimL (ys ++ [y]) = if y = 0 then trimL ys else ys ++ [y] := by
 unfold trimL
 rw [List.reverse_append, List.reverse_singleton, List.singleton_append, List.dropWhile_cons]
 by_cases h : y = 0
 ·rw [if_pos h, decide_eq_true h, if_pos rfl]
 ·rw [if_neg h, decide_eq_false h, if_neg (by simp), List.reverse_cons, List.reverse_reverse]
theorem trimL_len (xs : List Int) : (trimL xs).length ≤ xs.length := by
 unfold trimL
 rw [List.length_reverse]
 have := (List.dropWhile_suffix (l := xs.reverse) (fun x => decide (x = 0))).length_le
 simpa using this
theorem snoc_cases {α : Type} (xs : List α) : xs = [] ∨ ∃ ys y, xs = ys ++ [y] := by
 rcases List.eq_nil_or_concat xs with h | ⟨ys, y, h⟩
 ·exact .inl h
 ·exact .inr ⟨ys, y, by simpa using h⟩
theorem idx_snoc {α : Type} (ys : List α) (y : α) (h : ys.length ≤ 1048576) : idx (ys ++ [y]) (w64 (((ys ++ [y]).length : Int) - 1)) = some y := by
 have e : w64 (((ys ++ [y]).length : Int) - 1) = (ys.length : Int) := by
  rw [List.length_append, List.length_singleton, w64_in (by omega) (by omega)]
  omega
 rw [e, idx_nat (by simp)]
 simp
theorem slc0 {α : Type} {xs : List α} {hi : Nat} (h : hi ≤ xs.length) : slc xs 0 (hi : Int) = some (xs.take hi) := by
 have := slc_ok (xs := xs) (lo := 0) (hi := hi) (Nat.zero_le _) h
 rw [List.drop_zero] at this
 exact this
theorem run_trimmed : ∀ (n : Nat) (xs : List Int), xs.length = n → n ≤ 1048576 → run F_impl_trimmed_L1 xs = some (.brk (trimL xs))
 | 0, xs, h, _ => by
  obtain rfl : xs = [] := List.eq_nil_of_length_eq_zero h
  exact run_done rfl
 | n + 1, xs, h, hn => by
  rcases snoc_cases xs with rfl | ⟨ys, y, rfl⟩
  ·simp at h
  have hy : ys.length = n := by simpa using h
  have hb : F_impl_trimmed_L1 (ys ++ [y]) = cond (decide (y = 0)) (some (.inl ys)) (some (.inr (.brk (ys ++ [y])))) := by
   unfold F_impl_trimmed_L1
   rw [decide_eq_true (by rw [h]; omega), cond_true, idx_snoc ys y (by omega), bnd_some_eq]
   have e : w64 (((ys ++ [y]).length : Int) - 1) = (ys.length : Int) := by
    rw [List.length_append, List.length_singleton, w64_in (by omega) (by omega)]
    omega
   rw [e, slc0 (by simp), bnd_some_eq, List.take_left]
  rw [trimL_snoc]
  by_cases hz : y = 0
  ·rw [if_pos hz, run_next (by rw [hb, decide_eq_true hz]; rfl)]
   exact run_trimmed n ys hy (by omega)
  ·rw [if_neg hz, run_done (by rw [hb, decide_eq_false hz]; rfl)]
theorem impl_trimmed (xs : List Int) (h : xs.length ≤ 1048576) : F_impl_trimmed xs = some (trimL xs) := by
 unfold F_impl_trimmed
 rw [run_trimmed _ xs rfl h]
 rfl
theorem impl_clone' (xs : List Int) (h : xs.length ≤ 1048576) : F_slices_Clone_Sint64_int64 xs = some xs := by
 unfold F_slices_Clone_Sint64_int64
 rw [app_ok (by simp; omega)]
 rfl
theorem impl_reversed (xs : List Int) (h : xs.length ≤ 1048576) : F_impl_reversed xs = some xs.reverse := by
 unfold F_impl_reversed
 rw [impl_clone' xs h, bnd_some_eq, w64_in (by omega) (by omega)]
 obtain ⟨o, ho, i, j, rfl⟩ := run_inv (body := F_impl_reversed_L1) (fun s => ∃ n : Nat, s.2.1 = n ∧ s.2.2 = (xs.length : Int) - 1 - n ∧ 2 * n ≤ xs.length ∧ s.1.length = xs.length ∧ ∀ k, k < xs.length → s.1[k]? = if k < n ∨ xs.length ≤ k + n then xs[xs.length - 1 - k]? else xs[k]?)
  (fun o => ∃ i j, o = .brk (xs.reverse, i, j)) (fun s => (s.2.2 - s.2.1 + 1).toNat) (by
   rintro ⟨a, i, j⟩ ⟨n, rfl, rfl, h2, hl, hk⟩
   simp only at hl hk
   by_cases hc : n + n + 1 < xs.length
   ·left
    have hj : (xs.length : Int) - 1 - n = ((xs.length - 1 - n : Nat) : Int) := by omega
    have hjn : xs.length - 1 - n < a.length := by omega
    have hnn : n < a.length := by omega
    have aj : a[xs.length - 1 - n]? = xs[xs.length - 1 - n]? := by rw [hk _ (by omega), if_neg (by omega)]
    have an : a[n]? = xs[n]? := by rw [hk _ (by omega), if_neg (by omega)]
    refine ⟨((a.set n a[xs.length - 1 - n]).set (xs.length - 1 - n) a[n], ((n + 1 : Nat) : Int), (xs.length : Int) - 1 - ((n + 1 : Nat) : Int)), ?_, ⟨n + 1, rfl, rfl, by omega, by simpa using hl, ?_⟩, ?_⟩
    ·simp only [F_impl_reversed_L1]
     rw [decide_eq_true (by omega), cond_true, hj, idx_nat hjn, bnd_some_eq, idx_nat hnn, bnd_some_eq, bnd_some_eq, idx_nat (by simpa using hjn), bnd_some_eq, w64_nat1 (by omega), w64_in (by omega) (by omega)]
     simp only [Int.toNat_natCast]
     congr 4
     omega
    ·intro k hkl
     have hset : (((a.set n a[xs.length - 1 - n]).set (xs.length - 1 - n) a[n])[k]?) = if k = xs.length - 1 - n then a[n]? else if k = n then a[xs.length - 1 - n]? else a[k]? := by
      rw [List.getElem?_set, List.getElem?_set, List.length_set]
      by_cases e1 : xs.length - 1 - n = k
      ·rw [if_pos e1, if_pos hjn, if_pos e1.symm, List.getElem?_eq_getElem hnn]
      ·rw [if_neg e1]
       by_cases e2 : n = k
       ·rw [if_pos e2, if_pos (by omega), if_neg (fun e => e1 e.symm), if_pos e2.symm, List.getElem?_eq_getElem hjn]
       ·rw [if_neg e2, if_neg (fun e => e1 e.symm), if_neg (fun e => e2 e.symm)]
     rw [hset]
     by_cases e1 : k = xs.length - 1 - n
     ·rw [if_pos e1, if_pos (by omega), an]
      congr 1
      omega
     ·rw [if_neg e1]
      by_cases e2 : k = n
      ·rw [if_pos e2, if_pos (by omega), aj, e2]
      ·rw [if_neg e2, hk k hkl]
       by_cases c : k < n ∨ xs.length ≤ k + n
       ·rw [if_pos c, if_pos (by omega)]
       ·rw [if_neg c, if_neg (by omega)]
    ·show ((xs.length : Int) - 1 - ((n + 1 : Nat) : Int) - ((n + 1 : Nat) : Int) + 1).toNat < ((xs.length : Int) - 1 - n - n + 1).toNat
     omega
   ·right
    refine ⟨.brk (xs.reverse, (n : Int), (xs.length : Int) - 1 - n), ?_, _, _, rfl⟩
    have ha : a = xs.reverse := by
     apply List.ext_getElem?
     intro k
     by_cases hkl : k < xs.length
     ·rw [hk k hkl, List.getElem?_reverse hkl]
      by_cases c : k < n ∨ xs.length ≤ k + n
      ·rw [if_pos c]
      ·rw [if_neg c]
       congr 1
       omega
     ·rw [List.getElem?_eq_none (by omega), List.getElem?_eq_none (by simp; omega)]
    simp only [F_impl_reversed_L1]
    rw [decide_eq_false (by omega), cond_false, ha]) (xs, 0, (xs.length : Int) - 1) ⟨0, rfl, by simp, by omega, rfl, fun k hk => by rw [if_neg (by omega)]⟩
 rw [ho]
 rfl
end Go.Fn
namespace Go.Fn
open Go Go.Tc
def wordB (xs : List Int) : Bool := decide (xs.length ≤ 400) && xs.all fun x => inB x 0 9
theorem dec_le {a b : Nat} {x y : Int} (hx : x = a) (hy : y = b) : decide (x ≤ y) = decide (a ≤ b) := by
 subst hx; subst hy
 rw [decide_eq_decide]; omega
theorem impl_word (xs : List Int) (h : xs.length ≤ 1048576) : F_impl_IsWord xs = some (wordB xs) := by
 unfold F_impl_IsWord F_impl_isLetters wordB
 rw [impl_allWithin xs 0 9 h, ← dec_le (x := (xs.length : Int)) (y := 400) rfl rfl]
 cases decide ((xs.length : Int) ≤ 400) <;> rfl
end Go.Fn
namespace Go.Tc
open Go
theorem foldl_flat {β : Type} : ∀ (xs : List (List β)) (a : List β), xs.foldl (fun s x => s ++ x) a = a ++ xs.flatten
 | [], a => by simp
 | x :: xs, a => by rw [List.foldl_cons, foldl_flat xs]; simp
theorem slc_zero {α : Type} {xs : List α} : slc xs 0 ((0 : Nat) : Int) = some [] := by
 have := slc_ok (xs := xs) (lo := 0) (hi := 0) (Nat.le_refl 0) (Nat.zero_le _)
 simpa using this
theorem w64_00 : w64 (((0 : Nat) : Int) - ((0 : Nat) : Int)) = 0 := by
 rw [w64_in (by decide) (by decide)]; rfl
end Go.Tc
namespace Go.Fn
open Go Go.Tc
theorem impl_concat (xs : List (List Int)) (hn : xs.length ≤ 1048576) (h : xs.flatten.length ≤ 1048576) : F_slices_Concat_Sint64_int64 xs = some xs.flatten := by
 unfold F_slices_Concat_Sint64_int64
 have hdrop : ∀ (i : Nat) (hi : i < xs.length), (xs.drop i).flatten.length = xs[i].length + (xs.drop (i + 1)).flatten.length := fun i hi => by
  rw [List.drop_eq_getElem_cons hi, List.flatten_cons, List.length_append]
 obtain ⟨e1, e2⟩ := run_rowf (body := F_slices_Concat_Sint64_int64_L1 xs) xs (by omega) (fun (a : Int) i => (a, i)) (fun a x => a + (x.length : Int)) (fun i a => 0 ≤ a ∧ a + ((xs.drop i).flatten.length : Int) = (xs.flatten.length : Int)) (by
  rintro i hi a ⟨k0, k1⟩
  have := hdrop i hi
  have e : w64 (a + (xs[i].length : Int)) = a + (xs[i].length : Int) := w64_in (by omega) (by omega)
  refine ⟨?_, by omega, by omega⟩
  simp only [F_slices_Concat_Sint64_int64_L1, Int.ofNat_lt, hi, decide_true, cond_true, idx_nat hi, bnd_some_eq, e]
  rw [decide_eq_false (by omega), cond_false]) 0 ⟨by omega, by simp⟩
 rw [e1, run_done (x := .brk (xs.foldl (fun a x => a + (x.length : Int)) 0, (xs.length : Int))) (by simp [F_slices_Concat_Sint64_int64_L1])]
 rw [List.drop_length] at e2
 generalize xs.foldl (fun a x => a + (x.length : Int)) 0 = T at e2
 simp only [List.flatten_nil, List.length_nil] at e2
 simp only [bnd_some_eq, Out.elim]
 rw [decide_eq_false (by omega), cond_false, w64_00, w64_in (by omega) (by omega)]
 simp only [bnd_some_eq, Out.elim]
 have loop : ∀ (body : List Int × Int → Option ((List Int × Int) ⊕ Out (List Int × Int) (List Int))),
   (∀ (i : Nat) (hi : i < xs.length) (a : List Int), a.length + xs[i].length ≤ 1048576 → body (a, (i : Int)) = some (.inl (a ++ xs[i], w64 ((i : Int) + 1)))) →
   (∀ a, body (a, (xs.length : Int)) = some (.inr (.brk (a, (xs.length : Int))))) → run body ([], 0) = some (.brk (xs.flatten, (xs.length : Int))) := by
  intro body h1 h2
  have := (run_rowf (body := body) xs (by omega) (fun (a : List Int) i => (a, i)) (fun a x => a ++ x) (fun i a => a.length + (xs.drop i).flatten.length = xs.flatten.length) (by
   intro i hi a k
   have := hdrop i hi
   refine ⟨h1 i hi a (by omega), ?_⟩
   rw [List.length_append]; omega) [] (by simp)).1
  rw [foldl_flat, List.nil_append] at this
  rw [this, run_done (h2 _)]
 have l2 := loop (F_slices_Concat_Sint64_int64_L2 xs) (fun i hi a k => by
  simp only [F_slices_Concat_Sint64_int64_L2, Int.ofNat_lt, hi, decide_true, cond_true, idx_nat hi, bnd_some_eq]
  rw [app_ok (by omega), bnd_some_eq]) (fun a => by simp [F_slices_Concat_Sint64_int64_L2])
 have l3 := loop (F_slices_Concat_Sint64_int64_L3 xs) (fun i hi a k => by
  simp only [F_slices_Concat_Sint64_int64_L3, Int.ofNat_lt, hi, decide_true, cond_true, idx_nat hi, bnd_some_eq]
  rw [app_ok (by omega), bnd_some_eq]) (fun a => by simp [F_slices_Concat_Sint64_int64_L3])
 by_cases h0 : 0 < T - 0
 ·rw [decide_eq_true h0, cond_true]
  obtain ⟨n, hn⟩ : ∃ n : Nat, T - 0 = n := ⟨(T - 0).toNat, by omega⟩
  rw [hn, mke_nat (by omega), bnd_some_eq, slc_zero, bnd_some_eq, l2]
  rfl
 ·rw [decide_eq_false h0, cond_false, l3]
  rfl
theorem impl_joined (xs : List (List Int)) (hn : xs.length ≤ 1048576) (h : xs.flatten.length ≤ 1048576) : F_impl_joined xs = some xs.flatten := by
 unfold F_impl_joined
 rw [impl_concat xs hn h]
 rfl
end Go.Fn
namespace Go.Fn
open Go Go.Tc
def sideB (s : Int) (xs : List Int) : Bool := decide (xs.length ≤ 200) && (xs.all fun x => inB x 0 (s - 1)) && (decide (xs.length = 0) || decide (xs.getLastD 0 ≠ 0))
def confB (m : GMachine) (c : GConfig) : Bool := inB c.State 0 (m.States - 1) && (sideB m.Symbols c.Left && sideB m.Symbols c.Right)
theorem impl_side (xs : List Int) (s : Int) (hs : 0 ≤ s ∧ s ≤ 1000000) (h : xs.length ≤ 1048576) : F_impl_validSide xs s 200 = some (sideB s xs) := by
 unfold F_impl_validSide sideB F_impl_size_int64
 have e : w64 (s - 1) = s - 1 := w64_in (by omega) (by omega)
 rw [bnd_some_eq, e, impl_allWithin xs 0 (s - 1) h]
 by_cases hl : xs.length ≤ 200
 ·rw [decide_eq_true (by omega : (xs.length : Int) ≤ 200), decide_eq_true hl]
  cases xs.all fun x => inB x 0 (s - 1)
  ·rfl
  ·simp only [cond_true, bnd_some_eq, Bool.true_and]
   by_cases h0 : xs.length = 0
   ·rw [decide_eq_true (by omega : (xs.length : Int) = 0), decide_eq_true h0]; rfl
   ·rw [decide_eq_false (by omega : ¬ (xs.length : Int) = 0), decide_eq_false h0, idx_last h0 h]; rfl
 ·rw [decide_eq_false (by omega : ¬ (xs.length : Int) ≤ 200), decide_eq_false hl]; rfl
theorem impl_confOf (m : GMachine) (c : GConfig) (hs : 0 ≤ m.Symbols ∧ m.Symbols ≤ 1000000) (hq : 0 ≤ m.States ∧ m.States ≤ 1000000) (h : Sml c) : F_impl_configOf m c = some (confB m c) := by
 unfold F_impl_configOf confB
 rw [w64_in (by omega) (by omega), impl_in, bnd_some_eq, impl_side c.Left _ hs h.1.1, impl_side c.Right _ hs h.2.1]
 cases inB c.State 0 (m.States - 1)
 ·rfl
 ·cases sideB m.Symbols c.Left <;> rfl
theorem machB_in {m : GMachine} (h : machB m = true) : (0 ≤ m.Symbols ∧ m.Symbols ≤ 1000000) ∧ (0 ≤ m.States ∧ m.States ≤ 1000000) := by
 obtain ⟨s, q, hs, hq, b1, b2, b3, b4, _⟩ := machB_nat h
 omega
theorem impl_confV (m : GMachine) (c : GConfig) (s0 : Sml m) (s1 : Sml c) : F_impl_ValidConfig m c = some (machB m && confB m c) := by
 unfold F_impl_ValidConfig
 rw [impl_mach m s0, bnd_some_eq]
 cases hm : machB m
 ·rfl
 ·obtain ⟨h1, h2⟩ := machB_in hm
  rw [cond_true, impl_confOf m c h1 h2 s1]
  rfl
theorem confB_len {m : GMachine} {c : GConfig} (h : confB m c = true) : c.Left.length ≤ 200 ∧ c.Right.length ≤ 200 ∧ 0 ≤ c.State ∧ c.State ≤ m.States - 1 := by
 unfold confB sideB at h
 simp only [Bool.and_eq_true, decide_eq_true_eq] at h
 have := inB_iff.1 h.1
 exact ⟨h.2.1.1.1, h.2.2.1.1, this.1, this.2⟩
def rowC (c : GConfig) (W A : Nat) : List Int := (List.range W).map fun i => if i < A then c.Left.getD (A - 1 - i) 0 else c.Right.getD (i - A) 0
end Go.Fn
namespace Go.Fn
open Go Go.Tc
theorem trimL_getD (xs : List Int) (j : Nat) : (trimL xs).getD j 0 = xs.getD j 0 := by
 obtain ⟨n, hn⟩ : ∃ n, xs.length = n := ⟨_, rfl⟩
 induction n generalizing xs with
 | zero =>
  obtain rfl := List.eq_nil_of_length_eq_zero hn
  rfl
 | succ n ih =>
  rcases snoc_cases xs with rfl | ⟨ys, y, rfl⟩
  ·simp at hn
  ·rw [trimL_snoc]
   by_cases h : y = 0
   ·rw [if_pos h, ih ys (by simpa using hn)]
    subst h
    rw [List.getD_eq_getElem?_getD, List.getD_eq_getElem?_getD, List.getElem?_append]
    split
    ·rfl
    ·rename_i h2
     rw [List.getElem?_eq_none (by omega)]
     cases hj : j - ys.length <;> simp
   ·rw [if_neg h]
theorem tail_getD (xs : List Int) (j : Nat) : xs.tail.getD j 0 = xs.getD (j + 1) 0 := by
 cases xs <;> simp
def stepC (r : GRule) (c : GConfig) : GConfig :=
 if 0 < r.Move then ⟨r.Next, trimL (r.Write :: c.Left), c.Right.tail⟩ else ⟨r.Next, c.Left.tail, trimL (c.Left.getD 0 0 :: trimL (r.Write :: c.Right.tail))⟩
theorem stepC_len (r : GRule) (c : GConfig) : (stepC r c).Left.length ≤ c.Left.length + 1 ∧ (stepC r c).Right.length ≤ c.Right.length + 2 := by
 unfold stepC
 have h1 := trimL_len (r.Write :: c.Left)
 have h2 := trimL_len (r.Write :: c.Right.tail)
 have h3 := trimL_len (c.Left.getD 0 0 :: trimL (r.Write :: c.Right.tail))
 have h4 : c.Right.tail.length ≤ c.Right.length := by simp
 have h5 : c.Left.tail.length ≤ c.Left.length := by simp
 simp only [List.length_cons] at h1 h2 h3
 split
 ·simp only
  omega
 ·simp only
  omega
theorem rowC_getD (c : GConfig) {W A i : Nat} (h : i < W) : (rowC c W A).getD i 0 = if i < A then c.Left.getD (A - 1 - i) 0 else c.Right.getD (i - A) 0 := by
 rw [List.getD_eq_getElem?_getD, List.getElem?_eq_getElem (by simpa [rowC] using h)]
 simp [rowC]
def ruleAt (m : GMachine) (c : GConfig) : GRule := m.Rules.getD (w64 ((w64 (c.State * m.Symbols)) + c.Right.getD 0 0)).toNat noR
structure CfI (s q N : Nat) (c : GConfig) : Prop where
 st : ∃ p : Nat, c.State = p ∧ p < q
 lf : ∀ j, 0 ≤ c.Left.getD j 0 ∧ c.Left.getD j 0 < s
 rt : ∀ j, 0 ≤ c.Right.getD j 0 ∧ c.Right.getD j 0 < s
 ll : c.Left.length ≤ N
 rl : c.Right.length ≤ N
theorem getD_cons_in {x : Int} {l : List Int} {s : Nat} (hx : 0 ≤ x ∧ x < s) (hl : ∀ j, 0 ≤ l.getD j 0 ∧ l.getD j 0 < s) : ∀ j, 0 ≤ (x :: l).getD j 0 ∧ (x :: l).getD j 0 < s := fun j => by
 cases j with
 | zero => exact hx
 | succ j => rw [List.getD_cons_succ]; exact hl j
theorem CfI.step {s q N : Nat} {c : GConfig} (h : CfI s q N c) {r : GRule} (h1 : 0 ≤ r.Write ∧ r.Write < s) (h2 : 0 ≤ r.Next ∧ r.Next < q) : CfI s q (N + 2) (stepC r c) := by
 have hl := stepC_len r c
 have e1 : ∀ j, 0 ≤ (trimL (r.Write :: c.Left)).getD j 0 ∧ (trimL (r.Write :: c.Left)).getD j 0 < s := fun j => by rw [trimL_getD]; exact getD_cons_in h1 h.lf j
 have e2 : ∀ j, 0 ≤ c.Right.tail.getD j 0 ∧ c.Right.tail.getD j 0 < s := fun j => by rw [tail_getD]; exact h.rt _
 have e3 : ∀ j, 0 ≤ c.Left.tail.getD j 0 ∧ c.Left.tail.getD j 0 < s := fun j => by rw [tail_getD]; exact h.lf _
 have e4 : ∀ j, 0 ≤ (trimL (c.Left.getD 0 0 :: trimL (r.Write :: c.Right.tail))).getD j 0 ∧ (trimL (c.Left.getD 0 0 :: trimL (r.Write :: c.Right.tail))).getD j 0 < s := fun j => by
  rw [trimL_getD]
  exact getD_cons_in (h.lf 0) (fun j => by rw [trimL_getD]; exact getD_cons_in h1 e2 j) j
 have := h.ll
 have := h.rl
 refine ⟨⟨r.Next.toNat, ?_, by omega⟩, ?_, ?_, by omega, by omega⟩
 ·unfold stepC
  split <;> (simp only; omega)
 ·unfold stepC
  split
  ·exact e1
  ·exact e3
 ·unfold stepC
  split
  ·exact e2
  ·exact e4
theorem CfI.row {s q N : Nat} {c : GConfig} (h : CfI s q N c) {W A i : Nat} (hi : i < W) : 0 ≤ (rowC c W A).getD i 0 ∧ (rowC c W A).getD i 0 < s := by
 rw [rowC_getD c hi]
 split
 ·exact h.lf _
 ·exact h.rt _
structure MaI (m : GMachine) (s q : Nat) : Prop where
 hs : m.Symbols = s
 hq : m.States = q
 b1 : 2 ≤ s
 b2 : s ≤ 6
 b3 : 1 ≤ q
 b4 : q ≤ 1000
 hl : m.Rules.length = q * s
 b5 : q * s ≤ 6000
 hr : ∀ r ∈ m.Rules, ruleB m.Symbols m.States r = true
theorem at_eq {m : GMachine} {s q N : Nat} (M : MaI m s q) {c : GConfig} (h : CfI s q N c) : ∃ p a : Nat, c.State = p ∧ c.Right.getD 0 0 = a ∧ p < q ∧ a < s ∧ w64 ((w64 (c.State * m.Symbols)) + c.Right.getD 0 0) = ((p * s + a : Nat) : Int) ∧ p * s + a < q * s := by
 obtain ⟨p, hp, hpq⟩ := h.st
 have h0 := h.rt 0
 have hlt := at_lt hpq (show (c.Right.getD 0 0).toNat < s by omega)
 have := M.b5
 refine ⟨p, (c.Right.getD 0 0).toNat, hp, by omega, hpq, by omega, ?_, hlt⟩
 rw [hp, M.hs, w64_mul (by omega), show c.Right.getD 0 0 = ((c.Right.getD 0 0).toNat : Int) by omega, w64_add (by omega)]
 simp
theorem ruleAt_idx {m : GMachine} {s q N : Nat} (M : MaI m s q) {c : GConfig} (h : CfI s q N c) : idx m.Rules (w64 ((w64 (c.State * m.Symbols)) + c.Right.getD 0 0)) = some (ruleAt m c) ∧ ruleAt m c ∈ m.Rules := by
 obtain ⟨p, a, hp, ha, hpq, has, e, hlt⟩ := at_eq M h
 have hlt' : p * s + a < m.Rules.length := by rw [M.hl]; exact hlt
 unfold ruleAt
 rw [e, idx_nat hlt', Int.toNat_natCast, List.getD_eq_getElem?_getD, List.getElem?_eq_getElem hlt']
 exact ⟨rfl, List.getElem_mem _⟩
theorem rule_in {m : GMachine} {s q : Nat} (M : MaI m s q) {r : GRule} (h : r ∈ m.Rules) (hn : r ≠ noR) : (0 ≤ r.Write ∧ r.Write < s) ∧ (r.Move = 1 ∨ r.Move = -1) ∧ (0 ≤ r.Next ∧ r.Next < q) := by
 have hb := M.hr r h
 unfold ruleB at hb
 rw [decide_eq_false hn, Bool.false_or, Bool.and_eq_true, Bool.and_eq_true] at hb
 have w1 := inB_iff.1 hb.1
 have w2 := inB_iff.1 hb.2.2
 have w3 := hb.2.1
 simp only [Bool.or_eq_true, decide_eq_true_eq] at w3
 have := M.hs
 have := M.hq
 exact ⟨by omega, w3, by omega⟩
theorem impl_isRule (r : GRule) : F_impl_isRule r = some (!decide (r = noR)) := rfl
theorem confB_cfi {m : GMachine} {s q : Nat} (M : MaI m s q) {c : GConfig} (h : confB m c = true) : CfI s q 200 c := by
 have hl := confB_len h
 unfold confB sideB at h
 simp only [Bool.and_eq_true, decide_eq_true_eq] at h
 have h1 := inB_iff.1 h.1
 have hs := M.hs
 have hq := M.hq
 have b1 := M.b1
 have side : ∀ xs : List Int, (xs.all fun x => inB x 0 (m.Symbols - 1)) = true → ∀ j, 0 ≤ xs.getD j 0 ∧ xs.getD j 0 < s := by
  intro xs hx j
  rw [List.getD_eq_getElem?_getD]
  cases hj : xs[j]? with
  | none => simp; omega
  | some y =>
   have := inB_iff.1 (List.all_eq_true.1 hx y (List.mem_of_getElem? hj))
   simp only [Option.getD_some]
   omega
 exact ⟨⟨c.State.toNat, by omega, by omega⟩, side _ h.2.1.1.2, side _ h.2.2.1.2, hl.1, hl.2.1⟩
theorem machB_mai {m : GMachine} (h : machB m = true) : ∃ s q, MaI m s q := by
 obtain ⟨s, q, hs, hq, b1, b2, b3, b4, hl, b5, hr⟩ := machB_nat h
 exact ⟨s, q, hs, hq, b1, b2, b3, b4, hl, b5, hr⟩
end Go.Fn
namespace Go.Fn
open Go Go.Tc
def Bytes (xs : List (Ik .u8)) : Prop := xs.length ≤ 1048576 ∧ ∀ x ∈ xs, 0 ≤ x.val ∧ x.val ≤ 255
theorem bytes_of {xs : List (Ik .u8)} (h : Wf.wf xs) (hl : xs.length ≤ 1048576) : Bytes xs := by
 refine ⟨hl, fun x hx => ?_⟩
 have := h.2 x hx
 simpa [Wf.wf, IntKind.min, IntKind.max, IntKind.signed, IntKind.bits] using this
theorem kand255 (x : Int) : 0 ≤ kand .u64 x 255 ∧ kand .u64 x 255 ≤ 255 := by
 have h : (BitVec.ofInt 64 x &&& BitVec.ofInt 64 255).toNat ≤ 255 := by
  rw [BitVec.toNat_and]
  exact Nat.and_le_right
 have e : kand .u64 x 255 = (((BitVec.ofInt 64 x &&& BitVec.ofInt 64 255).toNat : Nat) : Int) := by
  unfold kand
  show IntKind.wrap .u64 (((BitVec.ofInt 64 x &&& BitVec.ofInt 64 255).toNat : Nat) : Int) = _
  generalize (BitVec.ofInt 64 x &&& BitVec.ofInt 64 255).toNat = n at h
  simp [IntKind.wrap, IntKind.bits, IntKind.signed]
  omega
 rw [e]
 omega
structure SrcOk (s : Gl00Src) (n : Int) : Prop where
 bytes : Bytes s.code
 lo : 0 ≤ s.at_
 hi : s.at_ ≤ n
theorem src_next {s : Gl00Src} {n : Int} (h : SrcOk s n) (hn : n ≤ 1099511627776) : ∃ v a sd, F_spec_l00Src_next s = some (v, (a, sd)) ∧ 0 ≤ v ∧ v ≤ 255 ∧ SrcOk ⟨s.code, a, sd⟩ (n + 1) := by
 obtain ⟨hb, h0, h1⟩ := h
 have e : s.at_ = ((s.at_.toNat : Nat) : Int) := by omega
 have ew : w64 (s.at_ + 1) = s.at_ + 1 := w64_in (by omega) (by omega)
 unfold F_spec_l00Src_next
 rw [ew]
 by_cases hlt : s.at_.toNat < s.code.length
 ·have hv := hb.2 _ (List.getElem_mem hlt)
  rw [decide_eq_true (by omega : s.at_ < (s.code.length : Int)), cond_true, e, idx_nat hlt, bnd_some_eq, bnd_some_eq]
  simp only [Out.elim]
  rw [decide_eq_true (by omega), cond_true]
  refine ⟨_, _, _, rfl, ?_, ?_, hb, by simp only; omega, by simp only; omega⟩
  ·rw [w64_in (by omega) (by omega)]; exact hv.1
  ·rw [w64_in (by omega) (by omega)]; exact hv.2
 ·rw [decide_eq_false (by omega : ¬ s.at_ < (s.code.length : Int)), cond_false, bnd_some_eq]
  simp only [Out.elim]
  rw [decide_eq_false (by omega), cond_false]
  have hk := kand255 (Int.fdiv (wk .u64 ((wk .u64 ((wk .u64 (s.seed.val * 6364136223846793005)) + (wk .u64 0))) + 1442695040888963407)) (2 ^ min (40 : Int).toNat (IntKind.bits .u64)))
  refine ⟨_, _, _, rfl, ?_, ?_, hb, by simp only; omega, by simp only; omega⟩
  ·rw [w64_in (by omega) (by omega)]; exact hk.1
  ·rw [w64_in (by omega) (by omega)]; exact hk.2
theorem nz_src {b : Int} (h : b ≠ 0) : nz b = some () := by unfold nz; rw [if_neg h]
theorem src_pick {s : Gl00Src} {n : Int} (k : Int) (h : SrcOk s n) (hn : n ≤ 1099511627776) (hk : k ≤ 200) : ∃ v a sd, F_spec_l00Src_pick s k = some (v, (a, sd)) ∧ 0 ≤ v ∧ (v < k ∨ v = 0) ∧ SrcOk ⟨s.code, a, sd⟩ (n + 1) := by
 unfold F_spec_l00Src_pick
 by_cases h1 : k ≤ 1
 ·rw [decide_eq_true h1, cond_true]
  exact ⟨_, _, _, rfl, by omega, .inr rfl, h.bytes, h.lo, by have := h.hi; simp only; omega⟩
 ·obtain ⟨v, a, sd, e, h0, h2, h3⟩ := src_next h hn
  rw [decide_eq_false h1, cond_false, e, bnd_some_eq, decide_eq_false (by omega : ¬ 200 < k), cond_false, nz_src (by omega), bnd_some_eq]
  refine ⟨_, _, _, rfl, ?_, ?_, h3⟩
  ·simp only
   rw [Int.tmod_eq_emod_of_nonneg h0]
   exact Int.emod_nonneg _ (by omega)
  ·left
   simp only
   rw [Int.tmod_eq_emod_of_nonneg h0]
   exact Int.emod_lt_of_pos _ (by omega)
theorem src_one {s : Gl00Src} {n : Int} (k : Int) (h : SrcOk s n) (hn : n ≤ 1099511627776) (hk : k ≤ 200) : ∃ b a sd, F_spec_l00Src_one s k = some (b, (a, sd)) ∧ SrcOk ⟨s.code, a, sd⟩ (n + 1) := by
 obtain ⟨v, a, sd, e, _, _, h3⟩ := src_pick k h hn hk
 unfold F_spec_l00Src_one
 rw [e, bnd_some_eq]
 exact ⟨_, _, _, rfl, h3⟩
def Let (k : Int) (w : List Int) : Prop := ∀ x ∈ w, 0 ≤ x ∧ x < k
theorem Let.mono {k l : Int} {w : List Int} (h : Let k w) (hkl : k ≤ l) : Let l w := fun x hx => ⟨(h x hx).1, by have := (h x hx).2; omega⟩
theorem SrcOk.mono {s : Gl00Src} {n n' : Int} (h : SrcOk s n) (hn : n ≤ n') : SrcOk s n' := ⟨h.bytes, h.lo, by have := h.hi; omega⟩
end Go.Fn
namespace Go.Fn
open Go Go.Tc
def OLe {R : Type} (f g : Option R) : Prop := ∀ r, f = some r → g = some r
theorem OLe.refl {R : Type} (f : Option R) : OLe f f := fun _ h => h
theorem OLe.bnd {α R : Type} {m m' : Option α} {k k' : α → Option R} (h : OLe m m') (hk : ∀ x, OLe (k x) (k' x)) : OLe (Tc.bnd m k) (Tc.bnd m' k') := by
 intro r hr
 obtain ⟨x, h1, h2⟩ := bnd_some hr
 rw [h x h1, bnd_some_eq]
 exact hk x r h2
theorem OLe.cond {R : Type} (b : Bool) {x x' y y' : Option R} (h1 : OLe x x') (h2 : OLe y y') : OLe (cond b x y) (cond b x' y') := by
 cases b
 ·exact h2
 ·exact h1
theorem OLe.elim {S R T : Type} (o : Out S R) {f f' : S → Option T} {g g' : R → Option T} (h1 : ∀ s, OLe (f s) (f' s)) (h2 : ∀ s, OLe (g s) (g' s)) : OLe (Out.elim f g o) (Out.elim f' g' o) := by
 cases o
 ·exact h1 _
 ·exact h2 _
theorem iterN_le {S X : Type} {b b' : S → Option (S ⊕ X)} (h : ∀ s, OLe (b s) (b' s)) : ∀ (k : Nat) (s : S) (x : X), iterN b k s = some x → iterN b' k s = some x
 | 0, _, _, hk => by simp [iterN] at hk
 | k + 1, s, x, hk => by
  simp only [iterN] at hk ⊢
  cases hb : b s with
  | none => rw [hb] at hk; cases hk
  | some q =>
   rw [hb] at hk
   rw [h s q hb]
   cases q with
   | inl s' => exact iterN_le h k s' x hk
   | inr y => exact hk
theorem OLe.run {S X : Type} {b b' : S → Option (S ⊕ X)} {s : S} (h : ∀ s, OLe (b s) (b' s)) : OLe (Tc.run b s) (Tc.run b' s) := by
 intro x hx
 obtain ⟨k, hk⟩ := run_iff.1 hx
 exact run_iff.2 ⟨k, iterN_le h k s x hk⟩
theorem Mono.of {α R : Type} {step : (α → Option R) → α → Option R} (h : ∀ f g : α → Option R, (∀ a, OLe (f a) (g a)) → ∀ a, OLe (step f a) (step g a)) : Mono step := fun f g hfg a => h f g hfg a
end Go.Fn
namespace Go.Fn
open Go Go.Tc
theorem bl_loop (s : ByteArray) : ∀ (k i : Nat) (r : List UInt8), i + k = s.size → ByteArray.toList.loop s i r = r.reverse ++ s.data.toList.drop i := by
 intro k
 induction k with
 | zero =>
  intro i r h
  rw [ByteArray.toList.loop, if_neg (by omega), List.drop_of_length_le, List.append_nil]
  have : s.data.size = s.size := rfl
  simp only [Array.length_toList]
  omega
 | succ k ih =>
  intro i r h
  have hs : s.data.size = s.size := rfl
  rw [ByteArray.toList.loop, if_pos (by omega), ih (i + 1) _ (by omega)]
  have e : s.get! i = s.data[i]'(by omega) := by
   show s.data[i]! = _
   rw [getElem!_pos s.data i (by omega)]
  rw [e, List.reverse_cons, List.append_assoc, List.drop_eq_getElem_cons (l := s.data.toList) (i := i) (by simp only [Array.length_toList]; omega)]
  rfl
theorem bl_data (s : ByteArray) : s.toList = s.data.toList := by
 have := bl_loop s s.size 0 [] (by omega)
 simpa [ByteArray.toList] using this
def runK {S X : Type} (k : Nat) (body : S → Option (S ⊕ X)) (s : S) : Option X := iterN body k s
theorem OLe.runK {S X : Type} {k : Nat} {b b' : S → Option (S ⊕ X)} {s : S} (h : ∀ s, OLe (b s) (b' s)) : OLe (Go.Fn.runK k b s) (Tc.run b' s) := fun x hx => run_iff.2 ⟨k, iterN_le h k s x hx⟩
end Go.Fn
namespace Go.Fn
open Go Go.Tc
noncomputable def T_spec_l01Split_L1 (p0 : ByteArray) (p1 : (Ik .u8)) (s2 : (List ByteArray) × Int × Int) : Option (((List ByteArray) × Int × Int) ⊕ Out ((List ByteArray) × Int × Int) (List ByteArray)) :=
 (cond (decide (s2.2.2 < (p0.size : Int))) (bnd (bidx p0 s2.2.2) fun y5 => (cond (decide (y5 = p1.val)) (bnd (bslc p0 s2.2.1 s2.2.2) fun z8 => bnd (app s2.1 ([z8] : List ByteArray)) fun z11 => some (.inl (z11, (w64 (s2.2.2 + 1)), (w64 (s2.2.2 + 1))))) (some (.inl (s2.1, s2.2.1, (w64 (s2.2.2 + 1))))))) (some (.inr (.brk (s2.1, s2.2.1, s2.2.2)))))
noncomputable def T_spec_l01Split (p0 : ByteArray) (p1 : (Ik .u8)) : Option ((List ByteArray)) :=
 bnd (runK 64 (T_spec_l01Split_L1 p0 p1) (([] : List ByteArray), 0, 0)) (Out.elim (fun (s2 : (List ByteArray) × Int × Int) => bnd (bslc p0 s2.2.1 (p0.size : Int)) fun z14 => bnd (app s2.1 ([z14] : List ByteArray)) fun z17 => some z17) (fun (r : (List ByteArray)) => some r))
noncomputable def T_spec_l01Number_L1 (p0 : ByteArray) (s15 : Int × Int) : Option ((Int × Int) ⊕ Out (Int × Int) (Int × Bool)) :=
 (cond (decide (s15.2 < (p0.size : Int))) (bnd (bidx p0 s15.2) fun y18 => bnd (F_spec_l01Digit (⟨y18⟩ : Ik .u8)) fun r20 => (cond (!r20) (some (.inr (.ret (0, false)))) (bnd (bidx p0 s15.2) fun y23 => some (.inl ((w64 ((w64 (10 * s15.1)) + (w64 (wk .u8 (y23 - 48))))), (w64 (s15.2 + 1))))))) (some (.inr (.brk (s15.1, s15.2)))))
noncomputable def T_spec_l01Number (p0 : ByteArray) : Option (Int × Bool) :=
 bnd ((cond (decide (0 < (p0.size : Int))) (bnd (bidx p0 0) fun y4 => (cond (decide (y4 = 45)) (some (.brk 1)) (some (.brk 0)))) (some (.brk 0))) : Option (Out (Int) (Int × Bool))) (Out.elim (fun (s1 : Int) => bnd ((cond (decide ((p0.size : Int) = s1)) (some (.ret (0, false))) (cond (decide (18 < (w64 ((p0.size : Int) - s1)))) (some (.ret (0, false))) (bnd (bidx p0 s1) fun y11 => (cond (decide (y11 = 48)) (cond (decide (1 < (p0.size : Int))) (some (.ret (0, false))) (some (.brk ()))) (some (.brk ())))))) : Option (Out (Unit) (Int × Bool))) (Out.elim (fun (s7 : Unit) => bnd (runK 64 (T_spec_l01Number_L1 p0) (0, s1)) (Out.elim (fun (s15 : Int × Int) => (cond (decide (s1 = 1)) (some ((w64 (0 - s15.1)), true)) (some (s15.1, true)))) (fun (r : Int × Bool) => some r))) (fun (r : Int × Bool) => some r))) (fun (r : Int × Bool) => some r))
noncomputable def T_spec_l05ReadRule (p0 : ByteArray) : Option (GRule × Bool) :=
 (cond (p0.data.toList == (⟨#[45, 45, 45]⟩ : ByteArray).data.toList) (bnd F_spec_l05None fun r3 => some (r3, true)) (bnd ((cond (decide ((p0.size : Int) < 3)) (some (.ret ((⟨0, 0, 0⟩ : GRule), false))) (bnd (bidx p0 0) fun y8 => bnd (F_spec_l01Digit (⟨y8⟩ : Ik .u8)) fun r10 => (cond (!r10) (some (.ret ((⟨0, 0, 0⟩ : GRule), false))) (bnd (bidx p0 1) fun y13 => (cond (decide (y13 ≠ 76)) (bnd (bidx p0 1) fun y16 => (cond (decide (y16 ≠ 82)) (some (.ret ((⟨0, 0, 0⟩ : GRule), false))) (some (.brk ())))) (some (.brk ()))))))) : Option (Out (Unit) (GRule × Bool))) (Out.elim (fun (s5 : Unit) => bnd (bslc p0 2 (p0.size : Int)) fun z19 => bnd (T_spec_l01Number z19) fun r21 => bnd (bidx p0 0) fun y23 => bnd (bidx p0 1) fun y26 => (cond (decide (y26 = 76)) (cond r21.2 (some ((⟨(w64 (wk .u8 (y23 - 48))), (-1), r21.1⟩ : GRule), (decide (0 ≤ r21.1)))) (some ((⟨(w64 (wk .u8 (y23 - 48))), (-1), r21.1⟩ : GRule), false))) (cond r21.2 (some ((⟨(w64 (wk .u8 (y23 - 48))), 1, r21.1⟩ : GRule), (decide (0 ≤ r21.1)))) (some ((⟨(w64 (wk .u8 (y23 - 48))), 1, r21.1⟩ : GRule), false))))) (fun (r : GRule × Bool) => some r))))
noncomputable def T_spec_l05Is_L1 (p0 : GMachine) (s31 : Int) : Option ((Int) ⊕ Out (Int) Bool) :=
 (cond (decide (s31 < (p0.Rules.length : Int))) (bnd (idx p0.Rules s31) fun y38 => bnd (F_spec_l05Rule y38 p0.Symbols p0.States) fun r49 => (cond (!r49) (some (.inr (.ret false))) (some (.inl (w64 (s31 + 1)))))) (some (.inr (.brk s31))))
noncomputable def T_spec_l05Is (p0 : GMachine) : Option (Bool) :=
 bnd (bnd (F_spec_l00In p0.Symbols 2 6) fun r8 => (cond (!r8) (some (.ret false)) (bnd (F_spec_l00In p0.States 1 1000) fun r15 => (cond (!r15) (some (.ret false)) (cond (decide ((p0.Rules.length : Int) ≠ (w64 (p0.Symbols * p0.States)))) (some (.ret false)) (some (.brk ())))))) : Option (Out (Unit) Bool)) (Out.elim (fun (s1 : Unit) => bnd (runK 64 (T_spec_l05Is_L1 p0) 0) (Out.elim (fun (s31 : Int) => some true) (fun (r : Bool) => some r))) (fun (r : Bool) => some r))
noncomputable def T_spec_l05Read_L2 (r21 : (List ByteArray)) (s28 : (List GRule) × Int) : Option (((List GRule) × Int) ⊕ Out ((List GRule) × Int) (GMachine × Bool)) :=
 (cond (decide (s28.2 < (r21.length : Int))) (bnd (idx r21 s28.2) fun y31 => bnd (T_spec_l05ReadRule y31) fun r36 => (cond (!r36.2) (some (.inr (.ret ((⟨0, 0, ([] : (List GRule))⟩ : GMachine), false)))) (bnd (app s28.1 ([r36.1] : List GRule)) fun z41 => some (.inl (z41, (w64 (s28.2 + 1))))))) (some (.inr (.brk (s28.1, s28.2)))))
noncomputable def T_spec_l05Read_L1 (r2 : (List ByteArray)) (r11 : (List ByteArray)) (s15 : (List GRule) × Int) : Option (((List GRule) × Int) ⊕ Out ((List GRule) × Int) (GMachine × Bool)) :=
 (cond (decide (s15.2 < (r2.length : Int))) (bnd (idx r2 s15.2) fun y18 => bnd (T_spec_l01Split y18 (⟨44⟩ : Ik .u8)) fun r21 => bnd ((cond (decide ((r21.length : Int) ≠ (r11.length : Int))) (some (.ret ((⟨0, 0, ([] : (List GRule))⟩ : GMachine), false))) (cond (decide (6 < (r11.length : Int))) (some (.ret ((⟨0, 0, ([] : (List GRule))⟩ : GMachine), false))) (some (.brk ())))) : Option (Out (Unit) (GMachine × Bool))) (Out.elim (fun (s24 : Unit) => bnd (runK 64 (T_spec_l05Read_L2 r21) (s15.1, 0)) (Out.elim (fun (s28 : (List GRule) × Int) => some (.inl (s28.1, (w64 (s15.2 + 1))))) (fun (r : GMachine × Bool) => some (.inr (.ret r))))) (fun (r : GMachine × Bool) => some (.inr (.ret r))))) (some (.inr (.brk (s15.1, s15.2)))))
noncomputable def T_spec_l05Read (p0 : ByteArray) : Option (GMachine × Bool) :=
 bnd (T_spec_l01Split p0 (⟨59⟩ : Ik .u8)) fun r2 => (cond (decide (1000 < (r2.length : Int))) (some ((⟨0, 0, ([] : (List GRule))⟩ : GMachine), false)) (bnd (idx r2 0) fun y6 => bnd (T_spec_l01Split y6 (⟨44⟩ : Ik .u8)) fun r11 => bnd (runK 64 (T_spec_l05Read_L1 r2 r11) (([] : (List GRule)), 0)) (Out.elim (fun (s15 : (List GRule) × Int) => bnd (T_spec_l05Is (⟨(r11.length : Int), (r2.length : Int), s15.1⟩ : GMachine)) fun r44 => (cond (!r44) (some ((⟨0, 0, ([] : (List GRule))⟩ : GMachine), false)) (some ((⟨(r11.length : Int), (r2.length : Int), s15.1⟩ : GMachine), true)))) (fun (r : GMachine × Bool) => some r))))
theorem le_spec_l01Split_L1 (p0 : ByteArray) (p1 : (Ik .u8)) (s2 : (List ByteArray) × Int × Int) : OLe (T_spec_l01Split_L1 p0 p1 s2) (F_spec_l01Split_L1 p0 p1 s2) := by
 unfold T_spec_l01Split_L1 F_spec_l01Split_L1
 repeat' first | with_reducible exact OLe.refl _ | with_reducible refine OLe.cond _ ?_ ?_ | with_reducible refine OLe.bnd ?_ (fun _ => ?_) | with_reducible refine OLe.elim _ (fun _ => ?_) (fun _ => ?_) | with_reducible refine OLe.runK (fun _ => ?_)
theorem le_spec_l01Split (p0 : ByteArray) (p1 : (Ik .u8)) : OLe (T_spec_l01Split p0 p1) (F_spec_l01Split p0 p1) := by
 unfold T_spec_l01Split F_spec_l01Split
 repeat' first | with_reducible exact OLe.refl _ | with_reducible exact le_spec_l01Split_L1 _ _ _ | with_reducible refine OLe.cond _ ?_ ?_ | with_reducible refine OLe.bnd ?_ (fun _ => ?_) | with_reducible refine OLe.elim _ (fun _ => ?_) (fun _ => ?_) | with_reducible refine OLe.runK (fun _ => ?_)
theorem le_spec_l01Number_L1 (p0 : ByteArray) (s15 : Int × Int) : OLe (T_spec_l01Number_L1 p0 s15) (F_spec_l01Number_L1 p0 s15) := by
 unfold T_spec_l01Number_L1 F_spec_l01Number_L1
 repeat' first | with_reducible exact OLe.refl _ | with_reducible refine OLe.cond _ ?_ ?_ | with_reducible refine OLe.bnd ?_ (fun _ => ?_) | with_reducible refine OLe.elim _ (fun _ => ?_) (fun _ => ?_) | with_reducible refine OLe.runK (fun _ => ?_)
theorem le_spec_l01Number (p0 : ByteArray) : OLe (T_spec_l01Number p0) (F_spec_l01Number p0) := by
 unfold T_spec_l01Number F_spec_l01Number
 repeat' first | with_reducible exact OLe.refl _ | with_reducible exact le_spec_l01Number_L1 _ _ | with_reducible refine OLe.cond _ ?_ ?_ | with_reducible refine OLe.bnd ?_ (fun _ => ?_) | with_reducible refine OLe.elim _ (fun _ => ?_) (fun _ => ?_) | with_reducible refine OLe.runK (fun _ => ?_)
theorem le_spec_l05ReadRule (p0 : ByteArray) : OLe (T_spec_l05ReadRule p0) (F_spec_l05ReadRule p0) := by
 unfold T_spec_l05ReadRule F_spec_l05ReadRule
 simp only [bl_data]
 repeat' first | with_reducible exact OLe.refl _ | with_reducible exact le_spec_l01Number _ | with_reducible refine OLe.cond _ ?_ ?_ | with_reducible refine OLe.bnd ?_ (fun _ => ?_) | with_reducible refine OLe.elim _ (fun _ => ?_) (fun _ => ?_) | with_reducible refine OLe.runK (fun _ => ?_)
theorem le_spec_l05Is_L1 (p0 : GMachine) (s31 : Int) : OLe (T_spec_l05Is_L1 p0 s31) (F_spec_l05Is_L1 p0 s31) := by
 unfold T_spec_l05Is_L1 F_spec_l05Is_L1
 repeat' first | with_reducible exact OLe.refl _ | with_reducible refine OLe.cond _ ?_ ?_ | with_reducible refine OLe.bnd ?_ (fun _ => ?_) | with_reducible refine OLe.elim _ (fun _ => ?_) (fun _ => ?_) | with_reducible refine OLe.runK (fun _ => ?_)
theorem le_spec_l05Is (p0 : GMachine) : OLe (T_spec_l05Is p0) (F_spec_l05Is p0) := by
 unfold T_spec_l05Is F_spec_l05Is
 repeat' first | with_reducible exact OLe.refl _ | with_reducible exact le_spec_l05Is_L1 _ _ | with_reducible refine OLe.cond _ ?_ ?_ | with_reducible refine OLe.bnd ?_ (fun _ => ?_) | with_reducible refine OLe.elim _ (fun _ => ?_) (fun _ => ?_) | with_reducible refine OLe.runK (fun _ => ?_)
theorem le_spec_l05Read_L2 (r21 : (List ByteArray)) (s28 : (List GRule) × Int) : OLe (T_spec_l05Read_L2 r21 s28) (F_spec_l05Read_L2 r21 s28) := by
 unfold T_spec_l05Read_L2 F_spec_l05Read_L2
 repeat' first | with_reducible exact OLe.refl _ | with_reducible exact le_spec_l05ReadRule _ | with_reducible refine OLe.cond _ ?_ ?_ | with_reducible refine OLe.bnd ?_ (fun _ => ?_) | with_reducible refine OLe.elim _ (fun _ => ?_) (fun _ => ?_) | with_reducible refine OLe.runK (fun _ => ?_)
theorem le_spec_l05Read_L1 (r2 : (List ByteArray)) (r11 : (List ByteArray)) (s15 : (List GRule) × Int) : OLe (T_spec_l05Read_L1 r2 r11 s15) (F_spec_l05Read_L1 r2 r11 s15) := by
 unfold T_spec_l05Read_L1 F_spec_l05Read_L1
 repeat' first | with_reducible exact OLe.refl _ | with_reducible exact le_spec_l01Split _ _ | with_reducible exact le_spec_l05Read_L2 _ _ | with_reducible refine OLe.cond _ ?_ ?_ | with_reducible refine OLe.bnd ?_ (fun _ => ?_) | with_reducible refine OLe.elim _ (fun _ => ?_) (fun _ => ?_) | with_reducible refine OLe.runK (fun _ => ?_)
theorem le_spec_l05Read (p0 : ByteArray) : OLe (T_spec_l05Read p0) (F_spec_l05Read p0) := by
 unfold T_spec_l05Read F_spec_l05Read
 repeat' first | with_reducible exact OLe.refl _ | with_reducible exact le_spec_l01Split _ _ | with_reducible exact le_spec_l05Is _ | with_reducible exact le_spec_l05Read_L1 _ _ _ | with_reducible refine OLe.cond _ ?_ ?_ | with_reducible refine OLe.bnd ?_ (fun _ => ?_) | with_reducible refine OLe.elim _ (fun _ => ?_) (fun _ => ?_) | with_reducible refine OLe.runK (fun _ => ?_)
def knownL : List ByteArray := [(⟨#[49, 82, 49, 44, 49, 76, 49, 59, 49, 76, 48, 44, 45, 45, 45]⟩ : ByteArray), (⟨#[49, 82, 49, 44, 45, 45, 45, 59, 49, 76, 49, 44, 48, 82, 50, 59, 49, 76, 50, 44, 49, 76, 48]⟩ : ByteArray), (⟨#[49, 82, 49, 44, 49, 76, 49, 59, 49, 76, 48, 44, 48, 76, 50, 59, 45, 45, 45, 44, 49, 76, 51, 59, 49, 82, 51, 44, 48, 82, 48]⟩ : ByteArray), (⟨#[49, 82, 48, 44, 45, 45, 45]⟩ : ByteArray), (⟨#[49, 82, 49, 44, 48, 82, 48, 59, 49, 76, 48, 44, 49, 82, 49]⟩ : ByteArray), (⟨#[49, 82, 49, 44, 50, 76, 49, 44, 45, 45, 45, 59, 50, 76, 48, 44, 50, 82, 49, 44, 49, 76, 49]⟩ : ByteArray), (⟨#[49, 76, 48, 44, 49, 82, 49, 59, 49, 82, 48, 44, 48, 76, 49]⟩ : ByteArray), (⟨#[49, 82, 49, 44, 49, 82, 48, 59, 49, 76, 48, 44, 49, 76, 49]⟩ : ByteArray)]
noncomputable def knownOk (t : ByteArray) : Bool := match T_spec_l05Read t with
 | some (m, b) => b && (machB m && decide (m.States ≤ 100))
 | none => false
set_option maxRecDepth 100000 in
theorem known_all : knownL.all knownOk = true := by decide +kernel
theorem read_known {t : ByteArray} (h : t ∈ knownL) : ∃ m, F_spec_l05Read t = some (m, true) ∧ machB m = true ∧ m.States ≤ 100 := by
 have h1 := List.all_eq_true.1 known_all t h
 unfold knownOk at h1
 split at h1
 ·rename_i m b e
  rw [Bool.and_eq_true, Bool.and_eq_true, decide_eq_true_eq] at h1
  exact ⟨m, by rw [le_spec_l05Read t _ e, h1.1], h1.2⟩
 ·cases h1
end Go.Fn
namespace Go.Fn
open Go Go.Tc
theorem noR_ruleB (s q : Int) : ruleB s q noR = true := by
 unfold ruleB
 rw [decide_eq_true rfl, Bool.true_or]
theorem drawSize_run {c : List (Ik .u8)} {p0 : Gl00Src} (hc : p0.code = c) {p1 p2 : Int} (h1 : 2 ≤ p1 ∧ p1 ≤ 6) (h2 : 1 ≤ p2 ∧ p2 ≤ 100) : ∀ (m : Nat) (a : Int) (sd : Ik .u64) (out : List GRule) (n : Int), SrcOk ⟨c, a, sd⟩ n → n + 4 * m ≤ 1099511627776 → m ≤ 1000 → out.length + m ≤ 1000 → (∀ r ∈ out, ruleB p1 p2 r = true) →
  ∃ rs a' sd', run (F_spec_l05DrawSize_L1 p0 p1 p2) (a, sd, out, (m : Int)) = some (.brk (a', sd', out ++ rs, 0)) ∧ rs.length = m ∧ (∀ r ∈ out ++ rs, ruleB p1 p2 r = true) ∧ SrcOk ⟨c, a', sd'⟩ (n + 4 * m) := by
 intro m
 induction m with
 | zero =>
  intro a sd out n h _ _ _ hl
  refine ⟨[], a, sd, run_done ?_, rfl, by rwa [List.append_nil], by simpa using h⟩
  simp only [F_spec_l05DrawSize_L1]
  rw [decide_eq_false (by omega), cond_false, List.append_nil]
  rfl
 | succ m ih =>
  intro a sd out n h hn hm ho hl
  obtain ⟨v, a1, sd1, e1, v0, v1, k1⟩ := src_pick p1 h (by omega) (by omega)
  obtain ⟨u, a2, sd2, e2, u0, u1, k2⟩ := src_pick 2 k1 (by omega) (by omega)
  obtain ⟨t, a3, sd3, e3, t0, t1, k3⟩ := src_pick p2 k2 (by omega) (by omega)
  obtain ⟨b, a4, sd4, e4, k4⟩ := src_one 7 k3 (by omega) (by omega)
  simp only at e2 e3 e4 k4
  have step : ∀ r : GRule, ruleB p1 p2 r = true → F_spec_l05DrawSize_L1 p0 p1 p2 (a, sd, out, ((m + 1 : Nat) : Int)) = some (.inl (a4, sd4, out ++ [r], (m : Int))) → ∃ rs a' sd', run (F_spec_l05DrawSize_L1 p0 p1 p2) (a, sd, out, ((m + 1 : Nat) : Int)) = some (.brk (a', sd', out ++ rs, 0)) ∧ rs.length = m + 1 ∧ (∀ r ∈ out ++ rs, ruleB p1 p2 r = true) ∧ SrcOk ⟨c, a', sd'⟩ (n + 4 * ((m + 1 : Nat) : Int)) := by
   intro r hr hb
   obtain ⟨rs, a', sd', e5, l1, l2, l3⟩ := ih a4 sd4 (out ++ [r]) (n + 1 + 1 + 1 + 1) k4 (by omega) (by omega) (by simp; omega) (by
    intro x hx
    rcases List.mem_append.1 hx with hx | hx
    ·exact hl x hx
    ·rw [List.mem_singleton.1 hx]; exact hr)
   refine ⟨r :: rs, a', sd', ?_, by simp [l1], by simpa using l2, l3.mono (by omega)⟩
   rw [run_next hb, e5]
   simp
  have hd : ((m + 1 : Nat) : Int) - 1 = (m : Int) := by omega
  cases b with
  | true =>
   refine step noR (noR_ruleB _ _) ?_
   simp only [F_spec_l05DrawSize_L1]
   rw [decide_eq_true (by omega), cond_true, hc, e1, bnd_some_eq, e2, bnd_some_eq, e3, bnd_some_eq, e4, bnd_some_eq, cond_true, show F_spec_l05None = some noR from rfl, bnd_some_eq, app_ok (by simp; omega), bnd_some_eq, w64_in (by omega) (by omega), hd]
  | false =>
   refine step ⟨v, 2 * u - 1, t⟩ ?_ ?_
   ·unfold ruleB
    have g1 : inB v 0 (p1 - 1) = true := inB_iff.2 (by omega)
    have g2 : inB t 0 (p2 - 1) = true := inB_iff.2 (by omega)
    simp only
    rw [g1, g2, Bool.true_and, Bool.and_true]
    rcases (show u = 0 ∨ u = 1 by omega) with rfl | rfl
    ·rw [show decide ((2 * 0 - 1 : Int) = -1) = true from rfl, Bool.or_true, Bool.or_true]
    ·rw [show decide ((2 * 1 - 1 : Int) = 1) = true from rfl, Bool.true_or, Bool.or_true]
   ·simp only [F_spec_l05DrawSize_L1]
    rw [decide_eq_true (by omega), cond_true, hc, e1, bnd_some_eq, e2, bnd_some_eq, e3, bnd_some_eq, e4, bnd_some_eq, cond_false]
    simp only
    rw [w64_in (n := 2 * u) (by omega) (by omega), w64_in (n := 2 * u - 1) (by omega) (by omega), app_ok (by simp; omega), bnd_some_eq, w64_in (by omega) (by omega), hd]
theorem src_size {s : Gl00Src} {n : Int} (h : SrcOk s n) (hn : n ≤ 1000000000) {p1 p2 : Int} (h1 : 2 ≤ p1 ∧ p1 ≤ 6) (h2 : 1 ≤ p2 ∧ p2 ≤ 100) : ∃ m a sd, F_spec_l05DrawSize s p1 p2 = some (m, (a, sd)) ∧ machB m = true ∧ m.States ≤ 100 ∧ SrcOk ⟨s.code, a, sd⟩ (n + 2400) := by
 have h3 : 0 ≤ p1 * p2 := Int.mul_nonneg (by omega) (by omega)
 have h4 : p1 * p2 ≤ 600 := by
  have g1 : p1 * p2 ≤ 6 * p2 := Int.mul_le_mul_of_nonneg_right h1.2 (by omega)
  omega
 obtain ⟨rs, a', sd', e, l1, l2, l3⟩ := drawSize_run (p0 := s) rfl h1 h2 (p1 * p2).toNat s.at_ s.seed [] n h (by omega) (by omega) (by simp; omega) (fun x hx => by simp at hx)
 rw [show (((p1 * p2).toNat : Nat) : Int) = p1 * p2 by omega] at e
 rw [List.nil_append] at e l2
 unfold F_spec_l05DrawSize
 rw [w64_in (by omega) (by omega), e, bnd_some_eq]
 refine ⟨⟨p1, p2, rs⟩, a', sd', rfl, ?_, h2.2, l3.mono (by omega)⟩
 unfold machB
 have g1 : inB p1 2 6 = true := inB_iff.2 h1
 have g2 : inB p2 1 1000 = true := inB_iff.2 (by omega)
 simp only
 rw [g1, g2, decide_eq_true (by omega), Bool.true_and, Bool.true_and]
 exact List.all_eq_true.2 l2
theorem src_known {s : Gl00Src} {n : Int} (h : SrcOk s n) (hn : n ≤ 1000000000) : ∃ m a sd, F_spec_l05Known s = some (m, (a, sd)) ∧ machB m = true ∧ m.States ≤ 100 ∧ SrcOk ⟨s.code, a, sd⟩ (n + 1) := by
 obtain ⟨v, a, sd, e, v0, v1, k⟩ := src_pick 8 h (by omega) (by omega)
 have hlt : v.toNat < knownL.length := by
  show v.toNat < 8
  omega
 obtain ⟨m, hm, h1, h2⟩ := read_known (List.getElem_mem hlt)
 have et : F_spec_l00Src_text s knownL = some (knownL[v.toNat], (a, sd)) := by
  unfold F_spec_l00Src_text
  show bnd (F_spec_l00Src_pick s 8) _ = _
  rw [e, bnd_some_eq]
  simp only
  have hi : idx knownL v = some knownL[v.toNat] := by
   have := idx_nat hlt
   rwa [show ((v.toNat : Nat) : Int) = v by omega] at this
  rw [hi, bnd_some_eq]
 refine ⟨m, a, sd, ?_, h1, h2, k⟩
 unfold F_spec_l05Known
 show bnd (F_spec_l00Src_text s knownL) _ = _
 rw [et, bnd_some_eq]
 simp only
 rw [hm, bnd_some_eq]
theorem sideB_trim {s : Int} : ∀ (n : Nat) (xs : List Int), xs.length = n → n ≤ 200 → Let s xs → sideB s (trimL xs) = true := by
 intro n
 induction n with
 | zero =>
  intro xs hn _ _
  obtain rfl := List.eq_nil_of_length_eq_zero hn
  rfl
 | succ n ih =>
  intro xs hn h2 hl
  rcases snoc_cases xs with rfl | ⟨ys, y, rfl⟩
  ·simp at hn
  ·rw [trimL_snoc]
   by_cases h : y = 0
   ·rw [if_pos h]
    exact ih ys (by simpa using hn) (by omega) (fun x hx => hl x (List.mem_append_left _ hx))
   ·rw [if_neg h]
    unfold sideB
    rw [decide_eq_true (by omega), Bool.true_and, Bool.and_eq_true]
    refine ⟨List.all_eq_true.2 fun x hx => inB_iff.2 ?_, ?_⟩
    ·have := hl x hx
     omega
    ·rw [decide_eq_true (show (ys ++ [y]).getLastD 0 ≠ 0 by simpa using h), Bool.or_true]
end Go.Fn
namespace Go.Fn
open Go Go.Tc
theorem r8_same (xs : List Int) (h : xs.length ≤ 1048576) : F_laws_r8Same xs xs = some true := by
 unfold F_laws_r8Same
 rw [decide_eq_false (by simp), cond_false, run_allp xs (by omega) (fun _ => true) (.ret false) (.brk (xs.length : Int)) (fun i hi => by
  simp only [F_laws_r8Same_L1, Int.ofNat_lt, hi, decide_true, cond_true, idx_nat hi, bnd_some_eq]
  rw [decide_eq_false (by simp), cond_false]) (by simp [F_laws_r8Same_L1])]
 have e : (xs.all fun _ => true) = true := by simp
 rw [e]
 rfl
theorem r8_config (c : GConfig) (h1 : c.Left.length ≤ 1048576) (h2 : c.Right.length ≤ 1048576) : F_laws_r8Config c c = some true := by
 unfold F_laws_r8Config
 rw [decide_eq_true rfl, cond_true, r8_same _ h1, bnd_some_eq, cond_true, r8_same _ h2, bnd_some_eq]
theorem r8_long (c d : List (Ik .u8)) : F_laws_r8Long c d = some (decide (1048576 < c.length) || decide (1048576 < d.length)) := by
 unfold F_laws_r8Long
 by_cases h : 1048576 < c.length
 ·rw [decide_eq_true (by omega), cond_true, decide_eq_true h, Bool.true_or]
 ·rw [decide_eq_false (by omega), cond_false, decide_eq_false h, Bool.false_or]
  congr 1
  rw [decide_eq_decide]
  omega
end Go.Fn
namespace Go.Fn
open Go Go.Tc
def rnr (m : GMachine) (c : GConfig) : Grunner := ⟨m.Symbols, m.States, m.Rules, c.State, c.Left.reverse, c.Right.reverse⟩
def Tm (xs : List Int) : Prop := trimL xs = xs
theorem trimL_idem : ∀ (n : Nat) (xs : List Int), xs.length = n → trimL (trimL xs) = trimL xs := by
 intro n
 induction n with
 | zero =>
  intro xs hn
  obtain rfl := List.eq_nil_of_length_eq_zero hn
  rfl
 | succ n ih =>
  intro xs hn
  rcases snoc_cases xs with rfl | ⟨ys, y, rfl⟩
  ·simp at hn
  ·rw [trimL_snoc]
   by_cases h : y = 0
   ·rw [if_pos h]
    exact ih ys (by simpa using hn)
   ·rw [if_neg h, trimL_snoc, if_neg h]
theorem Tm.trim (xs : List Int) : Tm (trimL xs) := trimL_idem _ xs rfl
theorem Tm.nil : Tm [] := rfl
theorem Tm.of_side {s : Int} {xs : List Int} (h : sideB s xs = true) : Tm xs := by
 rcases snoc_cases xs with rfl | ⟨ys, y, rfl⟩
 ·rfl
 ·unfold sideB at h
  simp only [Bool.and_eq_true, Bool.or_eq_true, decide_eq_true_eq] at h
  have h0 : y ≠ 0 := by
   have := h.2
   simpa using this
  unfold Tm
  rw [trimL_snoc, if_neg h0]
theorem Tm.last {xs : List Int} (h : Tm xs) : (decide (xs.length = 0) || decide (xs.getLastD 0 ≠ 0)) = true := by
 rcases snoc_cases xs with rfl | ⟨ys, y, rfl⟩
 ·rfl
 ·unfold Tm at h
  rw [trimL_snoc] at h
  by_cases h0 : y = 0
  ·rw [if_pos h0] at h
   have := trimL_len ys
   rw [h] at this
   simp at this
   omega
  ·simp [h0]
theorem Tm.cons {xs : List Int} (h : Tm xs) (x : Int) : trimL (x :: xs) = if x = 0 ∧ xs = [] then [] else x :: xs := by
 rcases snoc_cases xs with rfl | ⟨ys, y, rfl⟩
 ·have := trimL_snoc [] x
  rw [List.nil_append] at this
  rw [this]
  by_cases h0 : x = 0
  ·rw [if_pos h0, if_pos ⟨h0, rfl⟩]; rfl
  ·rw [if_neg h0, if_neg (fun e => h0 e.1)]
 ·have h1 := h.last
  have h0 : y ≠ 0 := by simpa using h1
  rw [← List.cons_append, trimL_snoc, if_neg h0, if_neg (fun e => by simp at e)]
theorem Tm.tail {xs : List Int} (h : Tm xs) : Tm xs.tail := by
 cases xs with
 | nil => rfl
 | cons x l =>
  rcases snoc_cases l with rfl | ⟨ys, y, rfl⟩
  ·rfl
  ·unfold Tm at h
   rw [← List.cons_append, trimL_snoc] at h
   have h0 : y ≠ 0 := by
    intro e
    rw [if_pos e] at h
    have := trimL_len (x :: ys)
    rw [h] at this
    simp at this
    omega
   show trimL (ys ++ [y]) = ys ++ [y]
   rw [trimL_snoc, if_neg h0]
theorem impl_nearest (xs : List Int) (h : xs.length ≤ 1048576) : F_impl_nearest xs.reverse = some (xs.getD 0 0) := by
 unfold F_impl_nearest
 cases xs with
 | nil => rfl
 | cons x l =>
  rw [List.reverse_cons, idx_snoc _ _ (by simp at h ⊢; omega), decide_eq_false (by simp; omega), cond_false]
  rfl
theorem impl_popR (xs : List Int) (h : xs.length ≤ 1048576) : slc xs.reverse 0 (if (w64 ((xs.reverse.length : Int) - 1)) > 0 then (w64 ((xs.reverse.length : Int) - 1)) else 0) = some xs.tail.reverse := by
 cases xs with
 | nil => rfl
 | cons x l =>
  have hl : l.length < 1048576 := by simp at h; omega
  have e : w64 (((x :: l).reverse.length : Int) - 1) = (l.length : Int) := by
   rw [List.length_reverse, List.length_cons, w64_in (by omega) (by omega)]
   omega
  rw [e]
  have e2 : (if (l.length : Int) > 0 then (l.length : Int) else 0) = ((l.length : Nat) : Int) := by
   split <;> omega
  rw [e2, slc0 (by simp), List.reverse_cons]
  congr 1
  rw [List.take_left' (by simp)]
  rfl
def pushR (xs : List Int) (x : Int) : List Int := if x = 0 ∧ xs = [] then [] else x :: xs
theorem impl_ruleR {m : GMachine} {s q N : Nat} (M : MaI m s q) {c : GConfig} (h : CfI s q N c) (hN : N ≤ 1000) : F_impl_runner_rule (rnr m c) = some (ruleAt m c) := by
 have hr := h.rl
 unfold F_impl_runner_rule F_impl_runner_at F_impl_runner_symbol rnr
 simp only
 rw [impl_nearest _ (by omega)]
 simp only [bnd_some_eq]
 rw [(ruleAt_idx M h).1, bnd_some_eq]
theorem impl_haltsR {m : GMachine} {s q N : Nat} (M : MaI m s q) {c : GConfig} (h : CfI s q N c) (hN : N ≤ 1000) : F_impl_runner_halts (rnr m c) = some (decide (ruleAt m c = noR)) := by
 unfold F_impl_runner_halts
 rw [impl_ruleR M h hN, bnd_some_eq, impl_isRule, bnd_some_eq, Bool.not_not]
theorem impl_configR (m : GMachine) (c : GConfig) (h1 : c.Left.length ≤ 1048576) (h2 : c.Right.length ≤ 1048576) : F_impl_runner_config (rnr m c) = some c := by
 unfold F_impl_runner_config rnr
 simp only
 rw [impl_reversed _ (by simpa using h1), impl_reversed _ (by simpa using h2)]
 simp only [bnd_some_eq, List.reverse_reverse]
def small (c : GConfig) : Bool := decide (c.Left.length ≤ 200) && decide (c.Right.length ≤ 200)
theorem impl_stepR {m : GMachine} {s q N : Nat} (M : MaI m s q) {c : GConfig} (h : CfI s q N c) (hN : N ≤ 1000) (hL : Tm c.Left) (hR : Tm c.Right) :
  F_impl_runner_step (rnr m c) = some (small (stepC (ruleAt m c) c), ((stepC (ruleAt m c) c).State, (stepC (ruleAt m c) c).Left.reverse, (stepC (ruleAt m c) c).Right.reverse)) := by
 have hl := h.ll
 have hr := h.rl
 have ht : c.Right.tail.length ≤ c.Right.length := by simp
 have pushE : ∀ (xs : List Int) (x : Int), xs.length ≤ 2000 → (cond (decide (x = 0)) (cond (decide ((xs.reverse.length : Int) = 0)) (some xs.reverse) (app xs.reverse [x])) (app xs.reverse [x])) = some (pushR xs x).reverse := by
  intro xs x hx
  unfold pushR
  rw [app_ok (by simp; omega)]
  by_cases h0 : x = 0
  ·rw [decide_eq_true h0, cond_true]
   cases xs with
   | nil => rw [if_pos ⟨h0, rfl⟩]; rfl
   | cons y l =>
    rw [decide_eq_false (by simp; omega), cond_false, if_neg (fun e => by simp at e), List.reverse_cons]
    simp
  ·rw [decide_eq_false h0, cond_false, if_neg (fun e => h0 e.1), List.reverse_cons]
 unfold F_impl_runner_step
 rw [impl_ruleR M h hN, bnd_some_eq]
 generalize ruleAt m c = r
 show bnd (slc c.Right.reverse 0 (if (w64 ((c.Right.reverse.length : Int) - 1)) > 0 then (w64 ((c.Right.reverse.length : Int) - 1)) else 0)) _ = _
 rw [impl_popR _ (by omega), bnd_some_eq]
 unfold rnr stepC
 simp only
 by_cases hm : 0 < r.Move
 ·rw [decide_eq_true hm, cond_true, if_pos hm, hL.cons]
  have hp := pushE c.Left r.Write (by omega)
  unfold pushR at hp
  generalize (if r.Write = 0 ∧ c.Left = [] then ([] : List Int) else r.Write :: c.Left) = L' at hp
  have e : (cond (decide (r.Write = 0)) (cond (decide ((c.Left.reverse.length : Int) = 0)) (some (.brk (c.Left.reverse, c.Right.tail.reverse))) (bnd (app c.Left.reverse ([r.Write] : List Int)) fun z19 => some (.brk (z19, c.Right.tail.reverse)))) (bnd (app c.Left.reverse ([r.Write] : List Int)) fun z23 => some (.brk (z23, c.Right.tail.reverse))) : Option (Out ((List Int) × (List Int)) ((Bool) × (Int × (List Int) × (List Int))))) = some (.brk (L'.reverse, c.Right.tail.reverse)) := by
   have hp' := congrArg (fun o => bnd o fun z => (some (Out.brk (z, c.Right.tail.reverse)) : Option (Out ((List Int) × (List Int)) ((Bool) × (Int × (List Int) × (List Int)))))) hp
   rw [bnd_some_eq] at hp'
   rw [← hp']
   cases decide (r.Write = 0)
   ·rfl
   ·cases decide ((c.Left.reverse.length : Int) = 0) <;> rfl
  rw [e, bnd_some_eq]
  simp only [Out.elim, List.length_reverse, small]
  by_cases g1 : L'.length ≤ 200
  ·rw [decide_eq_true (by omega), cond_true, decide_eq_true g1, Bool.true_and]
   congr 2
   rw [decide_eq_decide]
   omega
  ·rw [decide_eq_false (by omega), cond_false, decide_eq_false g1, Bool.false_and]
 ·rw [decide_eq_false hm, cond_false, if_neg hm]
  have h1 := pushE c.Right.tail r.Write (by omega)
  have k1 := hR.tail.cons r.Write
  have t1 : Tm (trimL (r.Write :: c.Right.tail)) := Tm.trim _
  have k2 := t1.cons (c.Left.getD 0 0)
  have l1 : (trimL (r.Write :: c.Right.tail)).length ≤ c.Right.tail.length + 1 := trimL_len _
  unfold pushR at h1
  rw [← k1] at h1
  have h2 := pushE (trimL (r.Write :: c.Right.tail)) (c.Left.getD 0 0) (by omega)
  unfold pushR at h2
  rw [← k2] at h2
  generalize trimL (c.Left.getD 0 0 :: trimL (r.Write :: c.Right.tail)) = R2 at h2
  generalize trimL (r.Write :: c.Right.tail) = R1 at h1 h2
  rw [impl_nearest _ (by omega)]
  generalize c.Left.getD 0 0 = y at h2
  simp only [bnd_some_eq]
  have e : (cond (decide (r.Write = 0)) (cond (decide ((c.Right.tail.reverse.length : Int) = 0)) (cond (decide (y = 0)) (some (.brk c.Right.tail.reverse)) (bnd (app c.Right.tail.reverse ([y] : List Int)) fun z41 => some (.brk z41))) (bnd (app c.Right.tail.reverse ([r.Write] : List Int)) fun z45 => (cond (decide (y = 0)) (cond (decide ((z45.length : Int) = 0)) (some (.brk z45)) (bnd (app z45 ([y] : List Int)) fun z55 => some (.brk z55))) (bnd (app z45 ([y] : List Int)) fun z59 => some (.brk z59))))) (bnd (app c.Right.tail.reverse ([r.Write] : List Int)) fun z63 => (cond (decide (y = 0)) (cond (decide ((z63.length : Int) = 0)) (some (.brk z63)) (bnd (app z63 ([y] : List Int)) fun z73 => some (.brk z73))) (bnd (app z63 ([y] : List Int)) fun z77 => some (.brk z77)))) : Option (Out ((List Int)) ((Bool) × (Int × (List Int) × (List Int))))) = some (.brk R2.reverse) := by
   have two : ∀ z : List Int, z = R1.reverse → (cond (decide (y = 0)) (cond (decide ((z.length : Int) = 0)) (some (.brk z)) (bnd (app z ([y] : List Int)) fun z55 => some (.brk z55))) (bnd (app z ([y] : List Int)) fun z59 => some (.brk z59)) : Option (Out ((List Int)) ((Bool) × (Int × (List Int) × (List Int))))) = some (.brk R2.reverse) := by
    intro z hz
    subst hz
    have hp' := congrArg (fun o => bnd o fun z => (some (Out.brk z) : Option (Out (List Int) ((Bool) × (Int × (List Int) × (List Int)))))) h2
    rw [bnd_some_eq] at hp'
    rw [← hp']
    cases decide (y = 0)
    ·rfl
    ·cases decide ((R1.reverse.length : Int) = 0) <;> rfl
   by_cases w0 : r.Write = 0
   ·rw [decide_eq_true w0] at h1 ⊢
    simp only [cond_true] at h1 ⊢
    by_cases w1 : (c.Right.tail.reverse.length : Int) = 0
    ·rw [decide_eq_true w1] at h1 ⊢
     simp only [cond_true] at h1 ⊢
     have := two c.Right.tail.reverse (Option.some.inj h1)
     rw [decide_eq_true w1] at this
     exact this
    ·rw [decide_eq_false w1] at h1 ⊢
     simp only [cond_false] at h1 ⊢
     rw [h1, bnd_some_eq]
     exact two _ rfl
   ·rw [decide_eq_false w0] at h1 ⊢
    simp only [cond_false] at h1 ⊢
    rw [h1, bnd_some_eq]
    exact two _ rfl
  rw [e, bnd_some_eq]
  simp only [Out.elim]
  rw [impl_popR _ (by omega), bnd_some_eq, bnd_some_eq]
  simp only [Out.elim, List.length_reverse, small]
  by_cases g1 : c.Left.tail.length ≤ 200
  ·rw [decide_eq_true (by omega), cond_true, decide_eq_true g1, Bool.true_and]
   congr 2
   rw [decide_eq_decide]
   omega
  ·rw [decide_eq_false (by omega), cond_false, decide_eq_false g1, Bool.false_and]
structure CfT (s q : Nat) (c : GConfig) : Prop where
 cf : CfI s q 200 c
 lt : Tm c.Left
 rt : Tm c.Right
theorem CfT.of {m : GMachine} {s q : Nat} (M : MaI m s q) {c : GConfig} (h : confB m c = true) : CfT s q c := by
 have h' := h
 unfold confB at h'
 simp only [Bool.and_eq_true] at h'
 exact ⟨confB_cfi M h, Tm.of_side h'.2.1, Tm.of_side h'.2.2⟩
theorem Tm.step (r : GRule) {c : GConfig} (hL : Tm c.Left) (hR : Tm c.Right) : Tm (stepC r c).Left ∧ Tm (stepC r c).Right := by
 unfold stepC
 split
 ·exact ⟨Tm.trim _, hR.tail⟩
 ·exact ⟨hL.tail, Tm.trim _⟩
theorem CfT.step {m : GMachine} {s q : Nat} (M : MaI m s q) {c : GConfig} (h : CfT s q c) (hn : ruleAt m c ≠ noR) (hs : small (stepC (ruleAt m c) c) = true) : CfT s q (stepC (ruleAt m c) c) := by
 obtain ⟨w1, _, w3⟩ := rule_in M (ruleAt_idx M h.cf).2 hn
 have h1 := h.cf.step w1 w3
 have h2 := Tm.step (ruleAt m c) h.lt h.rt
 unfold small at hs
 simp only [Bool.and_eq_true, decide_eq_true_eq] at hs
 exact ⟨⟨h1.st, h1.lf, h1.rt, hs.1, hs.2⟩, h2.1, h2.2⟩
def goC (m : GMachine) : Nat → GConfig → Option (Nat × GConfig)
 | 0, c => some (0, c)
 | n + 1, c => if ruleAt m c = noR then some (0, c) else if small (stepC (ruleAt m c) c) = true then (goC m n (stepC (ruleAt m c) c)).map fun r => (r.1 + 1, r.2) else none
def traceM (m : GMachine) : Nat → GConfig → Option (List GConfig)
 | 0, c => some [c]
 | n + 1, c => if ruleAt m c = noR then some [c] else if small (stepC (ruleAt m c) c) = true then (traceM m n (stepC (ruleAt m c) c)).map fun r => c :: r else none
theorem goC_succ (m : GMachine) (n : Nat) (c : GConfig) : goC m (n + 1) c = if ruleAt m c = noR then some (0, c) else if small (stepC (ruleAt m c) c) = true then (goC m n (stepC (ruleAt m c) c)).map fun r => (r.1 + 1, r.2) else none := rfl
theorem goC_conf {m : GMachine} {s q : Nat} (M : MaI m s q) : ∀ (n : Nat) (c : GConfig), CfT s q c → ∀ r, goC m n c = some r → CfT s q r.2 ∧ r.1 ≤ n
 | 0, c, h, r, e => by
  obtain rfl := Option.some.inj e
  exact ⟨h, Nat.le_refl _⟩
 | n + 1, c, h, r, e => by
  unfold goC at e
  split at e
  ·obtain rfl := Option.some.inj e
   exact ⟨h, Nat.zero_le _⟩
  ·rename_i hn
   split at e
   ·rename_i hs
    obtain ⟨r', e', rfl⟩ := Option.map_eq_some_iff.1 e
    have := goC_conf M n _ (h.step M hn hs) r' e'
    exact ⟨this.1, by simp only; omega⟩
   ·cases e
theorem traceM_go (m : GMachine) : ∀ (n : Nat) (c : GConfig), match goC m n c with
  | none => traceM m n c = none
  | some r => ∃ l, traceM m n c = some l ∧ l.length = r.1 + 1 ∧ l.head? = some c ∧ l[r.1]? = some r.2
 | 0, c => ⟨[c], rfl, rfl, rfl, rfl⟩
 | n + 1, c => by
  unfold goC traceM
  by_cases h : ruleAt m c = noR
  ·rw [if_pos h, if_pos h]
   exact ⟨[c], rfl, rfl, rfl, rfl⟩
  ·rw [if_neg h, if_neg h]
   by_cases hs : small (stepC (ruleAt m c) c) = true
   ·rw [if_pos hs, if_pos hs]
    have := traceM_go m n (stepC (ruleAt m c) c)
    cases hg : goC m n (stepC (ruleAt m c) c) with
    | none =>
     rw [hg] at this
     simp only at this
     rw [this]
     exact rfl
    | some r =>
     rw [hg] at this
     obtain ⟨l, h1, h2, h3, h4⟩ := this
     rw [h1]
     exact ⟨c :: l, rfl, by simp [h2], rfl, by simpa using h4⟩
   ·rw [if_neg hs, if_neg hs]
theorem run_goC {m : GMachine} {s q : Nat} (M : MaI m s q) (c0 : GConfig) : ∀ (n j : Nat) (c : GConfig) (d : Int), CfT s q c → n + j ≤ 1000000 →
  ∃ x, run (F_impl_runner_run_L1 (rnr m c0) ((n + j : Nat) : Int)) (c.State, c.Left.reverse, c.Right.reverse, (j : Int), d) = some x ∧
   match goC m n c with
   | none => ∃ t, x = .ret (some ((0, false, 5), t))
   | some r => x = .brk (r.2.State, r.2.Left.reverse, r.2.Right.reverse, ((j + r.1 : Nat) : Int), ((j + r.1 : Nat) : Int)) := by
 intro n
 induction n with
 | zero =>
  intro j c d _ hj
  refine ⟨_, run_done ?_, rfl⟩
  simp only [F_impl_runner_run_L1]
  rw [decide_eq_false (by omega), cond_false]
  rfl
 | succ n ih =>
  intro j c d h hj
  have hh : F_impl_runner_halts ⟨(rnr m c0).m_Symbols, (rnr m c0).m_States, (rnr m c0).m_Rules, c.State, c.Left.reverse, c.Right.reverse⟩ = some (decide (ruleAt m c = noR)) := impl_haltsR M h.cf (by omega)
  have hs : F_impl_runner_step ⟨(rnr m c0).m_Symbols, (rnr m c0).m_States, (rnr m c0).m_Rules, c.State, c.Left.reverse, c.Right.reverse⟩ = _ := impl_stepR M h.cf (by omega) h.lt h.rt
  unfold goC
  by_cases hn : ruleAt m c = noR
  ·rw [if_pos hn]
   refine ⟨_, run_done ?_, rfl⟩
   simp only [F_impl_runner_run_L1]
   rw [decide_eq_true (by omega), cond_true, hh, bnd_some_eq, decide_eq_true hn]
   rfl
  ·rw [if_neg hn]
   by_cases hk : small (stepC (ruleAt m c) c) = true
   ·rw [if_pos hk]
    have hb : F_impl_runner_run_L1 (rnr m c0) ((n + 1 + j : Nat) : Int) (c.State, c.Left.reverse, c.Right.reverse, (j : Int), d) = some (.inl ((stepC (ruleAt m c) c).State, (stepC (ruleAt m c) c).Left.reverse, (stepC (ruleAt m c) c).Right.reverse, ((j + 1 : Nat) : Int), (j : Int))) := by
     simp only [F_impl_runner_run_L1]
     rw [decide_eq_true (by omega), cond_true, hh, bnd_some_eq, decide_eq_false hn, Bool.not_false, cond_true, hs, bnd_some_eq, hk, w64_nat1 (by omega)]
     rfl
    rw [run_next hb]
    have := ih (j + 1) (stepC (ruleAt m c) c) (j : Int) (h.step M hn hk) (by omega)
    rw [show n + (j + 1) = n + 1 + j by omega] at this
    obtain ⟨x, hx, hm⟩ := this
    refine ⟨x, hx, ?_⟩
    cases hg : goC m n (stepC (ruleAt m c) c) with
    | none => rw [hg] at hm; exact hm
    | some r =>
     rw [hg] at hm
     simp only [Option.map_some] at hm ⊢
     rw [hm, show j + 1 + r.1 = j + (r.1 + 1) by omega]
   ·rw [if_neg hk]
    have hk' : small (stepC (ruleAt m c) c) = false := by simpa using hk
    refine ⟨.ret (some ((0, false, 5), ((stepC (ruleAt m c) c).State, (stepC (ruleAt m c) c).Left.reverse, (stepC (ruleAt m c) c).Right.reverse))), run_done ?_, _, rfl⟩
    simp only [F_impl_runner_run_L1]
    rw [decide_eq_true (by omega), cond_true, hh, bnd_some_eq, decide_eq_false hn, Bool.not_false, cond_true, hs, bnd_some_eq, hk']
    rfl
theorem machB_sml {m : GMachine} (h : machB m = true) : Sml m := by
 obtain ⟨s, q, M⟩ := machB_mai h
 have h1 := M.hl
 have h2 := M.b5
 exact ⟨by omega, fun _ _ => trivial⟩
theorem confB_sml {m : GMachine} {c : GConfig} (h : confB m c = true) : Sml c := by
 have := confB_len h
 exact ⟨⟨by omega, fun _ _ => trivial⟩, ⟨by omega, fun _ _ => trivial⟩⟩
theorem impl_runnerOf {m : GMachine} {c : GConfig} (h : confB m c = true) : F_impl_runnerOf m c = some (m.Symbols, m.States, m.Rules, c.State, c.Left.reverse, c.Right.reverse) := by
 have := confB_len h
 unfold F_impl_runnerOf
 rw [impl_reversed _ (by omega), impl_reversed _ (by omega)]
 rfl
theorem impl_run {m : GMachine} (hm : machB m = true) {c : GConfig} (hc : confB m c = true) {n : Nat} (h1 : 1 ≤ n) (h2 : n ≤ 20000) :
  F_impl_RunMachine m c (n : Int) = some (match goC m n c with
   | none => (⟨0, [], []⟩, 0, false, 5)
   | some r => (r.2, (r.1 : Int), decide (ruleAt m r.2 = noR), 0)) := by
 obtain ⟨s, q, M⟩ := machB_mai hm
 have hT := CfT.of M hc
 have hb : F_impl_budgetOk (n : Int) = some true := by
  unfold F_impl_budgetOk
  rw [impl_in, bnd_some_eq]
  congr 1
  exact inB_iff.2 (by omega)
 unfold F_impl_RunMachine
 rw [impl_confV m c (machB_sml hm) (confB_sml hc), bnd_some_eq, hm, hc, hb, impl_runnerOf hc]
 simp only [bnd_some_eq, Bool.and_self, Bool.not_true, cond_false]
 obtain ⟨x, hx, hg⟩ := run_goC M c n 0 c 0 hT (by omega)
 rw [Nat.add_zero, show ((0 : Nat) : Int) = 0 from rfl] at hx
 unfold F_impl_runner_run
 show bnd (bnd (run (F_impl_runner_run_L1 (rnr m c) (n : Int)) (c.State, c.Left.reverse, c.Right.reverse, 0, 0)) _) _ = _
 rw [hx, bnd_some_eq]
 cases hgo : goC m n c with
 | none =>
  rw [hgo] at hg
  obtain ⟨t, rfl⟩ := hg
  rfl
 | some r =>
  rw [hgo] at hg
  simp only at hg
  subst hg
  have hr := (goC_conf M n c hT r hgo).1
  have hh : F_impl_runner_halts ⟨m.Symbols, m.States, m.Rules, r.2.State, r.2.Left.reverse, r.2.Right.reverse⟩ = some (decide (ruleAt m r.2 = noR)) := impl_haltsR M hr.cf (by omega)
  have hcf : F_impl_runner_config ⟨m.Symbols, m.States, m.Rules, r.2.State, r.2.Left.reverse, r.2.Right.reverse⟩ = some r.2 := impl_configR m r.2 (by have := hr.cf.ll; omega) (by have := hr.cf.rl; omega)
  simp only [Out.elim]
  rw [hh, bnd_some_eq, bnd_some_eq]
  simp only
  rw [decide_eq_false (by decide), cond_false, hcf, bnd_some_eq, Nat.zero_add]
end Go.Fn
namespace Go.Fn
open Go Go.Tc
def val : List Int → Int
 | [] => 0
 | d :: r => d + 1000000 * val r
theorem trimL_cons (x : Int) (xs : List Int) : trimL (x :: xs) = if trimL xs = [] ∧ x = 0 then [] else x :: trimL xs := by
 unfold trimL
 rw [List.reverse_cons]
 generalize xs.reverse = ys
 induction ys with
 | nil =>
  by_cases h : x = 0
  ·simp [h]
  ·simp [h]
 | cons y ys ih =>
  rw [List.cons_append, List.dropWhile_cons, List.dropWhile_cons]
  by_cases h : y = 0
  ·simp only [h, decide_true, if_true]
   exact ih
  ·simp [h]
end Go.Fn
namespace Go.Fn
open Go Go.Tc
theorem tz_cons (x : Int) (l : List Int) : trimL (x :: trimL l) = trimL (x :: l) := by
 rw [trimL_cons, trimL_cons, Tm.trim l]
theorem tz_tail (l : List Int) : (trimL l).tail = trimL l.tail := by
 cases l with
 | nil => rfl
 | cons x t =>
  rw [trimL_cons]
  split
  ·rename_i h
   rw [List.tail_cons, h.1]
   rfl
  ·rfl
def abC (q : Int) (A B : List Int) : GConfig := ⟨q, trimL A.reverse, trimL B⟩
theorem ab_padL (q : Int) (A B : List Int) : abC q (0 :: A) B = abC q A B := by
 unfold abC
 rw [List.reverse_cons, trimL_snoc, if_pos rfl]
theorem ab_padR (q : Int) (A B : List Int) : abC q A (B ++ [0]) = abC q A B := by
 unfold abC
 rw [trimL_snoc, if_pos rfl]
theorem ab_rule (m : GMachine) (q : Int) (A : List Int) (x : Int) (B : List Int) : ruleAt m (abC q A (x :: B)) = m.Rules.getD (w64 ((w64 (q * m.Symbols)) + x)).toNat noR := by
 unfold ruleAt abC
 rw [trimL_getD]
 rfl
theorem ab_right {r : GRule} (h : r.Move = 1) (q : Int) (A : List Int) (x : Int) (B : List Int) : stepC r (abC q A (x :: B)) = abC r.Next (A ++ [r.Write]) B := by
 unfold stepC abC
 rw [if_pos (by omega)]
 simp only [List.reverse_append, List.reverse_singleton, List.singleton_append]
 rw [tz_cons, tz_tail]
 rfl
theorem ab_left {r : GRule} (h : r.Move = -1) (q : Int) (A : List Int) (y x : Int) (B : List Int) : stepC r (abC q (A ++ [y]) (x :: B)) = abC r.Next A (y :: r.Write :: B) := by
 unfold stepC abC
 rw [if_neg (by omega)]
 simp only [List.reverse_append, List.reverse_singleton, List.singleton_append]
 rw [trimL_getD, tz_tail, tz_tail, List.tail_cons, List.tail_cons]
 show (⟨r.Next, trimL A.reverse, trimL (y :: trimL (r.Write :: trimL B))⟩ : GConfig) = _
 rw [tz_cons r.Write B, tz_cons]
theorem ab_left0 {r : GRule} (h : r.Move = -1) (q : Int) (x : Int) (B : List Int) : stepC r (abC q [] (x :: B)) = abC r.Next [] (0 :: r.Write :: B) := by
 rw [← ab_padL q [] (x :: B)]
 exact ab_left h q [] 0 x B
theorem ab_small {q : Int} {A B : List Int} (h1 : A.length ≤ 200) (h2 : B.length ≤ 200) : small (abC q A B) = true := by
 unfold small abC
 have e1 := trimL_len A.reverse
 have e2 := trimL_len B
 rw [List.length_reverse] at e1
 rw [Bool.and_eq_true, decide_eq_true_eq, decide_eq_true_eq]
 exact ⟨by simp only; omega, by simp only; omega⟩
inductive Sts (m : GMachine) : Nat → GConfig → GConfig → Prop
 | zero (c : GConfig) : Sts m 0 c c
 | succ {n : Nat} {c c1 c' : GConfig} (h1 : ruleAt m c ≠ noR) (e : stepC (ruleAt m c) c = c1) (h2 : small c1 = true) (h3 : Sts m n c1 c') : Sts m (n + 1) c c'
theorem Sts.trans {m : GMachine} {n k : Nat} {a b c : GConfig} (h1 : Sts m n a b) (h2 : Sts m k b c) : Sts m (n + k) a c := by
 induction h1 with
 | zero _ => rw [Nat.zero_add]; exact h2
 | succ g1 e g2 _ ih => rw [Nat.add_right_comm]; exact .succ g1 e g2 (ih h2)
theorem Sts.go {m : GMachine} {n : Nat} {a b : GConfig} (h : Sts m n a b) : goC m n a = some (n, b) := by
 induction h with
 | zero _ => rfl
 | succ g1 e g2 _ ih =>
  rw [goC_succ, if_neg g1, e, if_pos g2, ih]
  rfl
def ShOk (m : GMachine) (q0 side : Int) (out w : List Int) (at_ : Nat) (q : Int) (k : Nat) : Prop :=
 w.length = out.length ∧ (∀ x ∈ w, 0 ≤ x ∧ x < m.Symbols) ∧ ∀ A B : List Int, A.length + out.length + B.length ≤ 199 →
  (side = 1 → Sts m k (abC q (A ++ out.take at_) (out.drop at_ ++ B)) (abC q0 (A ++ w) B)) ∧
  (side = -1 → ∀ y, Sts m k (abC q (A ++ [y] ++ out.take at_) (out.drop at_ ++ B)) (abC q0 A (y :: w ++ B)))
theorem take_set_succ (xs : List Int) {a : Nat} (h : a < xs.length) (v : Int) : (xs.set a v).take (a + 1) = xs.take a ++ [v] := by
 rw [List.set_eq_take_append_cons_drop, if_pos h, show xs.take a ++ v :: xs.drop (a + 1) = (xs.take a ++ [v]) ++ xs.drop (a + 1) by simp, List.take_left' (by simp; omega)]
theorem drop_set_succ (xs : List Int) {a : Nat} (v : Int) : (xs.set a v).drop (a + 1) = xs.drop (a + 1) := List.drop_set_of_lt (by omega)
theorem take_set_pred (xs : List Int) {a : Nat} (v : Int) : (xs.set (a + 1) v).take a = xs.take a := by
 rw [List.take_set_of_le (by omega)]
theorem drop_set_pred (xs : List Int) {a : Nat} (h : a + 1 < xs.length) (v : Int) : (xs.set (a + 1) v).drop a = xs[a] :: v :: xs.drop (a + 2) := by
 rw [List.drop_eq_getElem_cons (by simp; omega), List.getElem_set_ne (by omega), List.drop_eq_getElem_cons (by simp; omega), List.getElem_set_self, List.drop_set_of_lt (by omega)]
theorem drop_set_self (xs : List Int) {a : Nat} (h : a < xs.length) (v : Int) : (xs.set a v).drop a = v :: xs.drop (a + 1) := by
 rw [List.drop_eq_getElem_cons (by simp; omega), List.getElem_set_self, drop_set_succ]
theorem sh_run {m : GMachine} {s p : Nat} (M : MaI m s p) {q0 side : Int} {w0 : List Int} (hs : side = 1 ∨ side = -1) (hw : 1 ≤ w0.length ∧ w0.length ≤ 100) : ∀ (k n : Nat) (out : List Int) (at_ q : Nat), n + k = 200 → out.length = w0.length → (∀ x ∈ out, 0 ≤ x ∧ x < m.Symbols) → at_ < out.length → q < p →
  (∃ r : (List Int) × Int × Int × Int, run (F_impl_shiftOver_L1 m q0 w0 side) (out, (at_ : Int), (q : Int), (n : Int)) = some (.brk r)) ∨
  (∃ r : (List Int) × Int × Int, run (F_impl_shiftOver_L1 m q0 w0 side) (out, (at_ : Int), (q : Int), (n : Int)) = some (.ret r) ∧ r.2.2 ≠ 0) ∨
  (∃ (w : List Int) (j : Nat), run (F_impl_shiftOver_L1 m q0 w0 side) (out, (at_ : Int), (q : Int), (n : Int)) = some (.ret (w, ((n + j : Nat) : Int), 0)) ∧ 1 ≤ j ∧ n + j ≤ 200 ∧ ShOk m q0 side out w at_ (q : Int) j)
 | 0, n, out, at_, q, hn, _, _, _, _ => by
  obtain rfl : n = 200 := by omega
  exact .inl ⟨(out, (at_ : Int), (q : Int), ((200 : Nat) : Int)), run_done (by simp only [F_impl_shiftOver_L1]; rfl)⟩
 | k + 1, n, out, at_, q, hn, hl, hx, ha, hq => by
  have hx0 := hx _ (List.getElem_mem ha)
  have hsz := M.hs
  have hb5 := M.b5
  have hlen := M.hl
  have hat : q * s + (out[at_]).toNat < m.Rules.length := by
   rw [hlen]
   have : (out[at_]).toNat < s := by omega
   have := Nat.mul_le_mul_right s (show q + 1 ≤ p by omega)
   rw [Nat.add_mul] at this
   omega
  have hmul : ((q * s : Nat) : Int) = (q : Int) * m.Symbols := by rw [hsz]; exact Int.natCast_mul q s
  have hqs : q * s ≤ 6000 := by
   have := Nat.mul_le_mul_right s (show q ≤ p by omega)
   omega
  have hix : w64 ((w64 ((q : Int) * m.Symbols)) + out[at_]) = ((q * s + (out[at_]).toNat : Nat) : Int) := by
   rw [← hmul, w64_in (n := ((q * s : Nat) : Int)) (by omega) (by have := M.b2; omega), w64_in (by omega) (by have := M.b2; omega)]
   omega
  have hrule : ∀ (A B : List Int), ruleAt m (abC (q : Int) A (out[at_] :: B)) = m.Rules[q * s + (out[at_]).toNat] := fun A B => by
   rw [ab_rule, hix, Int.toNat_natCast, List.getD_eq_getElem?_getD, List.getElem?_eq_getElem hat]
   rfl
  generalize hr : m.Rules[q * s + (out[at_]).toNat] = r at hrule
  have hmem : r ∈ m.Rules := by rw [← hr]; exact List.getElem_mem hat
  have hbody : F_impl_shiftOver_L1 m q0 w0 side (out, (at_ : Int), (q : Int), (n : Int)) = cond (!(!decide (r = noR))) (some (.inr (.ret (([] : (List Int)), 0, 6)))) (cond (inB (w64 ((at_ : Int) + r.Move)) 0 (w64 ((w0.length : Int) - 1))) (some (.inl ((out.set at_ r.Write), (w64 ((at_ : Int) + r.Move)), r.Next, ((n + 1 : Nat) : Int)))) (cond (decide (r.Move ≠ side)) (some (.inr (.ret (([] : (List Int)), 0, 3)))) (cond (decide (r.Next ≠ q0)) (some (.inr (.ret (([] : (List Int)), 0, 3)))) (some (.inr (.ret ((out.set at_ r.Write), ((n + 1 : Nat) : Int), 0))))))) := by
   simp only [F_impl_shiftOver_L1, F_impl_size_int64]
   rw [decide_eq_true (by omega : (n : Int) < 200), cond_true, idx_nat ha, bnd_some_eq, hix, idx_nat hat, bnd_some_eq, hr, impl_isRule, bnd_some_eq, bnd_some_eq, bnd_some_eq, impl_in, bnd_some_eq, w64_nat1 (by omega), Int.toNat_natCast]
  by_cases hn0 : r = noR
  ·rw [decide_eq_true hn0] at hbody
   exact .inr (.inl ⟨_, run_done hbody, by decide⟩)
  rw [decide_eq_false hn0] at hbody
  simp only [Bool.not_false, Bool.not_true, cond_false] at hbody
  obtain ⟨⟨w1, w2⟩, wm, n1, n2⟩ := rule_in M hmem hn0
  have hset : ∀ x ∈ out.set at_ r.Write, 0 ≤ x ∧ x < m.Symbols := fun x hx' => by
   rcases List.mem_or_eq_of_mem_set hx' with h | rfl
   ·exact hx x h
   ·rw [hsz]; exact ⟨w1, w2⟩
  have hnx : r.Next = ((r.Next.toNat : Nat) : Int) := by omega
  rw [w64_in (n := (w0.length : Int) - 1) (by omega) (by omega)] at hbody
  have hdr := List.drop_eq_getElem_cons ha
  rcases wm with wm | wm
  ·rw [wm] at hbody
   by_cases hin : at_ + 1 < out.length
   ·have e1 : inB (w64 ((at_ : Int) + 1)) 0 ((w0.length : Int) - 1) = true := by
     rw [w64_in (by omega) (by omega)]
     exact inB_iff.2 (by omega)
    rw [e1, cond_true, w64_nat1 (by omega), hnx] at hbody
    rw [run_next hbody]
    have step : ∀ A B : List Int, A.length + out.length + B.length ≤ 200 → ∀ c' j, Sts m j (abC r.Next (A ++ (out.set at_ r.Write).take (at_ + 1)) ((out.set at_ r.Write).drop (at_ + 1) ++ B)) c' → Sts m (j + 1) (abC (q : Int) (A ++ out.take at_) (out.drop at_ ++ B)) c' := fun A B hlt c' j h => by
     rw [hdr, List.cons_append]
     refine .succ (by rw [hrule]; exact hn0) (by rw [hrule, ab_right wm]) (ab_small (by simp; omega) (by simp; omega)) ?_
     rw [take_set_succ _ ha, drop_set_succ, ← List.append_assoc] at h
     exact h
    rcases sh_run M hs hw k (n + 1) (out.set at_ r.Write) (at_ + 1) r.Next.toNat (by omega) (by simpa using hl) hset (by simpa using hin) (by omega) with h | h | ⟨w, j, h1, h2, h3, h4, h5, h6⟩
    ·exact .inl h
    ·exact .inr (.inl h)
    ·refine .inr (.inr ⟨w, j + 1, by rw [h1, show ((n + 1 + j : Nat) : Int) = ((n + (j + 1) : Nat) : Int) by omega], by omega, by omega, by simpa using h4, h5, fun A B hlt => ?_⟩)
     rw [List.length_set, ← hnx] at h6
     refine ⟨fun hs1 => step A B (by omega) _ _ ((h6 A B hlt).1 hs1), fun hs1 y => ?_⟩
     have := step (A ++ [y]) B (by simp; omega) _ _ ((h6 A B hlt).2 hs1 y)
     exact this
   ·have hlast : at_ + 1 = out.length := by omega
    have e1 : inB (w64 ((at_ : Int) + 1)) 0 ((w0.length : Int) - 1) = false := by
     rw [w64_in (by omega) (by omega)]
     rw [Bool.eq_false_iff]
     intro h
     have := inB_iff.1 h
     omega
    rw [e1, cond_false] at hbody
    by_cases hm1 : (1 : Int) = side
    ·rw [decide_eq_false (by simpa using hm1), cond_false] at hbody
     by_cases hq1 : r.Next = q0
     ·rw [decide_eq_false (by simpa using hq1), cond_false] at hbody
      refine .inr (.inr ⟨out.set at_ r.Write, 1, run_done hbody, by omega, by omega, by simp, hset, fun A B hlt => ⟨fun _ => ?_, fun h => by omega⟩⟩)
      rw [hdr, List.cons_append]
      refine .succ (by rw [hrule]; exact hn0) (by rw [hrule, ab_right wm]) (ab_small (by simp; omega) (by simp; omega)) ?_
      have e2 : out.set at_ r.Write = out.take at_ ++ [r.Write] := by
       rw [← take_set_succ _ ha, hlast, List.take_of_length_le (by simp)]
      rw [List.drop_eq_nil_of_le (by omega), e2, hq1, List.nil_append, List.append_assoc]
      exact .zero _
     ·rw [decide_eq_true (by simpa using hq1), cond_true] at hbody
      exact .inr (.inl ⟨_, run_done hbody, by decide⟩)
    ·rw [decide_eq_true (by simpa using hm1), cond_true] at hbody
     exact .inr (.inl ⟨_, run_done hbody, by decide⟩)
  ·rw [wm] at hbody
   cases at_ with
   | zero =>
    have e1 : inB (w64 (((0 : Nat) : Int) + -1)) 0 ((w0.length : Int) - 1) = false := by
     rw [w64_in (by omega) (by omega)]
     rw [Bool.eq_false_iff]
     intro h
     have := inB_iff.1 h
     omega
    rw [e1, cond_false] at hbody
    by_cases hm1 : (-1 : Int) = side
    ·rw [decide_eq_false (by simpa using hm1), cond_false] at hbody
     by_cases hq1 : r.Next = q0
     ·rw [decide_eq_false (by simpa using hq1), cond_false] at hbody
      refine .inr (.inr ⟨out.set 0 r.Write, 1, run_done hbody, by omega, by omega, by simp, hset, fun A B hlt => ⟨fun h => by omega, fun _ y => ?_⟩⟩)
      have e3 : (out.set 0 r.Write) = r.Write :: out.drop 1 := by
       have := drop_set_self out ha r.Write
       rwa [List.drop_zero] at this
      rw [hdr, List.cons_append, List.take_zero, List.append_nil]
      refine .succ (by rw [hrule]; exact hn0) (by rw [hrule, ab_left wm]) (ab_small (by omega) (by simp; omega)) ?_
      rw [e3, hq1]
      exact .zero _
     ·rw [decide_eq_true (by simpa using hq1), cond_true] at hbody
      exact .inr (.inl ⟨_, run_done hbody, by decide⟩)
    ·rw [decide_eq_true (by simpa using hm1), cond_true] at hbody
     exact .inr (.inl ⟨_, run_done hbody, by decide⟩)
   | succ a =>
    have e0 : w64 (((a + 1 : Nat) : Int) + -1) = (a : Int) := by
     rw [w64_in (by omega) (by omega)]
     omega
    have e1 : inB (a : Int) 0 ((w0.length : Int) - 1) = true := inB_iff.2 (by omega)
    rw [e0, e1, cond_true, hnx] at hbody
    rw [run_next hbody]
    have htk : out.take (a + 1) = out.take a ++ [out[a]] := by rw [List.take_succ_eq_append_getElem (by omega)]
    have step : ∀ A B : List Int, A.length + out.length + B.length ≤ 200 → ∀ c' j, Sts m j (abC r.Next (A ++ (out.set (a + 1) r.Write).take a) ((out.set (a + 1) r.Write).drop a ++ B)) c' → Sts m (j + 1) (abC (q : Int) (A ++ out.take (a + 1)) (out.drop (a + 1) ++ B)) c' := fun A B hlt c' j h => by
     rw [hdr, List.cons_append, htk, ← List.append_assoc]
     refine .succ (by rw [hrule]; exact hn0) (by rw [hrule, ab_left wm]) (ab_small (by simp; omega) (by simp; omega)) ?_
     rw [take_set_pred, drop_set_pred _ ha] at h
     exact h
    rcases sh_run M hs hw k (n + 1) (out.set (a + 1) r.Write) a r.Next.toNat (by omega) (by simpa using hl) hset (by simp; omega) (by omega) with h | h | ⟨w, j, h1, h2, h3, h4, h5, h6⟩
    ·exact .inl h
    ·exact .inr (.inl h)
    ·refine .inr (.inr ⟨w, j + 1, by rw [h1, show ((n + 1 + j : Nat) : Int) = ((n + (j + 1) : Nat) : Int) by omega], by omega, by omega, by simpa using h4, h5, fun A B hlt => ?_⟩)
     rw [List.length_set, ← hnx] at h6
     refine ⟨fun hs1 => step A B (by omega) _ _ ((h6 A B hlt).1 hs1), fun hs1 y => ?_⟩
     have := step (A ++ [y]) B (by simp; omega) _ _ ((h6 A B hlt).2 hs1 y)
     exact this
def abL (q : Int) (A B : List Int) : GConfig := abC q A.dropLast (A.drop (A.length - 1) ++ B)
theorem abL_snoc (q : Int) (A : List Int) (y : Int) (B : List Int) : abL q (A ++ [y]) B = abC q A (y :: B) := by
 unfold abL
 rw [List.dropLast_concat, List.length_append, List.length_singleton, Nat.add_sub_cancel, List.drop_left]
 rfl
def ShR (m : GMachine) (q0 side : Int) (w0 w : List Int) (j : Nat) : Prop :=
 ∀ A B : List Int, A.length + w0.length + B.length ≤ 199 → (side = 1 → Sts m j (abC q0 A (w0 ++ B)) (abC q0 (A ++ w) B)) ∧ (side = -1 → ∀ y, Sts m j (abL q0 (A ++ [y] ++ w0) B) (abL q0 (A ++ [y]) (w ++ B)))
theorem sh_over {m : GMachine} {s p : Nat} (M : MaI m s p) {q0 : Nat} (hq : q0 < p) {side : Int} (hs : side = 1 ∨ side = -1) {w0 : List Int} (hw : 1 ≤ w0.length ∧ w0.length ≤ 100) (hx : ∀ x ∈ w0, 0 ≤ x ∧ x < m.Symbols) :
  ∃ r, F_impl_shiftOver m (q0 : Int) w0 side = some r ∧ (r.2.2 = 0 → ∃ (w : List Int) (j : Nat), r = (w, (j : Int), 0) ∧ 1 ≤ j ∧ j ≤ 200 ∧ w.length = w0.length ∧ (∀ x ∈ w, 0 ≤ x ∧ x < m.Symbols) ∧ ShR m (q0 : Int) side w0 w j) := by
 have fin : ∀ a : Nat, a < w0.length → (side = 1 → a = 0) → (side = -1 → a + 1 = w0.length) → ∃ r, (bnd (run (F_impl_shiftOver_L1 m (q0 : Int) w0 side) (w0, (a : Int), (q0 : Int), 0)) (Out.elim (fun (_ : (List Int) × Int × Int × Int) => some (([] : List Int), 0, 3)) (fun (r : (List Int) × Int × Int) => some r))) = some r ∧ (r.2.2 = 0 → ∃ (w : List Int) (j : Nat), r = (w, (j : Int), 0) ∧ 1 ≤ j ∧ j ≤ 200 ∧ w.length = w0.length ∧ (∀ x ∈ w, 0 ≤ x ∧ x < m.Symbols) ∧ ShR m (q0 : Int) side w0 w j) := by
  intro a ha h1 h2
  have ez : ((0 : Nat) : Int) = 0 := rfl
  rcases sh_run M hs hw (q0 := (q0 : Int)) 200 0 w0 a q0 (by omega) rfl hx ha hq with ⟨r, h⟩ | ⟨r, h, hr⟩ | ⟨w, j, h, g1, g2, g3, g4, g5⟩
  ·rw [ez] at h
   rw [h, bnd_some_eq]
   exact ⟨_, rfl, fun h => absurd h (by decide)⟩
  ·rw [ez] at h
   rw [h, bnd_some_eq]
   exact ⟨r, rfl, fun h => absurd h hr⟩
  ·rw [ez, Nat.zero_add] at h
   rw [h, bnd_some_eq]
   refine ⟨_, rfl, fun _ => ⟨w, j, rfl, g1, by omega, g3, g4, fun A B hlt => ⟨fun hs1 => ?_, fun hs1 y => ?_⟩⟩⟩
   ·have := (g5 A B hlt).1 hs1
    rw [h1 hs1, List.take_zero, List.append_nil, List.drop_zero] at this
    exact this
   ·have := (g5 A B hlt).2 hs1 y
    have hl := h2 hs1
    have e1 : w0.take a ++ w0.drop a = w0 := List.take_append_drop _ _
    have e2 : abL (q0 : Int) (A ++ [y] ++ w0) B = abC (q0 : Int) (A ++ [y] ++ w0.take a) (w0.drop a ++ B) := by
     unfold abL
     have e3 : (A ++ [y] ++ w0).length - 1 = (A ++ [y]).length + a := by simp; omega
     rw [e3, List.drop_length_add_append, List.dropLast_eq_take, e3, List.take_length_add_append]
    rw [e2, abL_snoc]
    exact this
 unfold F_impl_shiftOver
 rw [impl_clone' _ (by omega), bnd_some_eq]
 rcases hs with rfl | rfl
 ·rw [show decide ((1 : Int) = -1) = false from rfl, cond_false, bnd_some_eq]
  exact fin 0 (by omega) (fun _ => rfl) (fun h => by omega)
 ·rw [show decide ((-1 : Int) = -1) = true from rfl, cond_true]
  simp only [F_impl_size_int64, bnd_some_eq, Out.elim]
  have e : w64 ((w0.length : Int) - 1) = ((w0.length - 1 : Nat) : Int) := by
   rw [w64_in (by omega) (by omega)]
   omega
  rw [e]
  exact fin (w0.length - 1) (by omega) (fun h => by omega) (fun _ => by omega)
def rpF (n : Nat) (w : List Int) : List Int := (List.replicate n w).flatten
theorem rp_zero (w : List Int) : rpF 0 w = [] := rfl
theorem rp_succ (n : Nat) (w : List Int) : rpF (n + 1) w = w ++ rpF n w := by
 unfold rpF
 rw [List.replicate_succ, List.flatten_cons]
theorem rp_add (n k : Nat) (w : List Int) : rpF (n + k) w = rpF n w ++ rpF k w := by
 unfold rpF
 rw [← List.replicate_append_replicate, List.flatten_append]
theorem rp_one (w : List Int) : rpF 1 w = w := by rw [rp_succ, rp_zero, List.append_nil]
theorem rp_succ' (n : Nat) (w : List Int) : rpF (n + 1) w = rpF n w ++ w := by rw [rp_add, rp_one]
theorem rp_len (n : Nat) (w : List Int) : (rpF n w).length = n * w.length := by
 unfold rpF
 simp
theorem rp_nil (n : Nat) : rpF n [] = [] := by
 unfold rpF
 simp
theorem sh_right {m : GMachine} {q0 : Int} {w0 w : List Int} {j : Nat} (h : ShR m q0 1 w0 w j) (hl : w.length = w0.length) : ∀ (n : Nat) (A B : List Int), A.length + n * w0.length + B.length ≤ 199 → Sts m (n * j) (abC q0 A (rpF n w0 ++ B)) (abC q0 (A ++ rpF n w) B)
 | 0, A, B, _ => by
  rw [Nat.zero_mul, rp_zero, rp_zero, List.append_nil, List.nil_append]
  exact .zero _
 | n + 1, A, B, hlt => by
  rw [Nat.succ_mul] at hlt
  have h1 := (h A (rpF n w0 ++ B) (by rw [List.length_append, rp_len]; omega)).1 rfl
  have h2 := sh_right h hl n (A ++ w) B (by rw [List.length_append]; omega)
  rw [rp_succ, rp_succ, Nat.succ_mul, Nat.add_comm, List.append_assoc, ← List.append_assoc A]
  exact h1.trans h2
theorem sh_left {m : GMachine} {q0 : Int} {w0 w : List Int} {j : Nat} (h : ShR m q0 (-1) w0 w j) (hl : w.length = w0.length) (y : Int) : ∀ (n : Nat) (A B : List Int), A.length + n * w0.length + B.length ≤ 199 → Sts m (n * j) (abL q0 (A ++ [y] ++ rpF n w0) B) (abL q0 (A ++ [y]) (rpF n w ++ B))
 | 0, A, B, _ => by
  rw [Nat.zero_mul, rp_zero, rp_zero, List.append_nil, List.nil_append]
  exact .zero _
 | n + 1, A, B, hlt => by
  rw [Nat.succ_mul] at hlt
  have hfl : ∀ A' : List Int, ∀ z : Int, A'.length + 1 = A.length + 1 + n * w0.length → A' ++ [z] = A ++ [y] ++ rpF n w0 → Sts m j (abL q0 (A' ++ [z] ++ w0) B) (abL q0 (A' ++ [z]) (w ++ B)) := fun A' z hl' _ => (h A' B (by omega)).2 rfl z
  have hne : A ++ [y] ++ rpF n w0 ≠ [] := by simp
  have e0 := List.dropLast_concat_getLast hne
  have hdl : ((A ++ [y] ++ rpF n w0).dropLast).length + 1 = A.length + 1 + n * w0.length := by
   simp [rp_len]
   omega
  have h1 := hfl _ _ hdl e0
  rw [e0] at h1
  have h2 := sh_left h hl y n A (w ++ B) (by rw [List.length_append]; omega)
  rw [rp_succ', rp_succ', Nat.succ_mul, Nat.add_comm, List.append_assoc (rpF n w) w B, ← List.append_assoc (A ++ [y])]
  exact h1.trans h2
end Go.Fn
namespace Go.Fn
open Go Go.Tc
set_option maxRecDepth 100000 in
theorem mul_small : ∀ a : Nat, a < 21 → ∀ b : Nat, b < 21 → F_math_bits_Mul ⟨wk .u64 (a : Int)⟩ ⟨wk .u64 (b : Int)⟩ = some ((⟨0⟩ : Ik .u64), (⟨((a * b : Nat) : Int)⟩ : Ik .u64)) := by decide +kernel
theorem rp_take (w : List Int) {c d k : Nat} (hc : k ≤ c * w.length) (hd : k ≤ d * w.length) : (rpF c w).take k = (rpF d w).take k := by
 rcases Nat.le_total c d with h | h
 ·obtain ⟨e, rfl⟩ := Nat.exists_eq_add_of_le h
  rw [rp_add, List.take_append_of_le_length (by rw [rp_len]; exact hc)]
 ·obtain ⟨e, rfl⟩ := Nat.exists_eq_add_of_le h
  rw [rp_add, List.take_append_of_le_length (by rw [rp_len]; exact hd)]
theorem rep_loop (w : List Int) (b : Nat) (hN : b * w.length ≤ 1000) : ∀ (f n : Nat) (s : List Int), b * w.length ≤ n + f → s.length = b * w.length → n ≤ b * w.length → s.take n = (rpF b w).take n → 1 ≤ n → (n = b * w.length ∨ ∃ t, n = t * w.length ∧ t ≤ b) →
  run (F_slices_Repeat_Sint64_int64_L1) (s, (n : Int)) = some (.brk (rpF b w, ((b * w.length : Nat) : Int)))
 | f, n, s, hf, hl, hn, ht, h1, hm => by
  by_cases he : n = b * w.length
  ·subst he
   have hs : s = rpF b w := by
    rw [List.take_of_length_le (by omega), List.take_of_length_le (by rw [rp_len]; exact Nat.le_refl _)] at ht
    exact ht
   subst hs
   refine run_done ?_
   simp only [F_slices_Repeat_Sint64_int64_L1]
   rw [decide_eq_false (by omega), cond_false]
  ·obtain ⟨t, rfl, htb⟩ := hm.resolve_left he
   cases f with
   | zero => omega
   | succ f =>
    have hz1 : slc s ((t * w.length : Nat) : Int) (s.length : Int) = some (s.drop (t * w.length)) := by
     rw [slc_ok (by omega) (Nat.le_refl _), List.take_length]
    have hz2 : slc s 0 ((t * w.length : Nat) : Int) = some (s.take (t * w.length)) := by
     have := slc_ok (xs := s) (lo := 0) (hi := t * w.length) (Nat.zero_le _) (by omega)
     rw [List.drop_zero] at this
     exact this
    have hbody : F_slices_Repeat_Sint64_int64_L1 (s, ((t * w.length : Nat) : Int)) = some (.inl (s.take (t * w.length) ++ (s.take (t * w.length)).take (min (t * w.length) (b * w.length - t * w.length)) ++ s.drop (t * w.length + min (t * w.length) (b * w.length - t * w.length)), ((t * w.length + min (t * w.length) (b * w.length - t * w.length) : Nat) : Int))) := by
     simp only [F_slices_Repeat_Sint64_int64_L1]
     rw [decide_eq_true (by omega), cond_true, hz1, bnd_some_eq, hz2, bnd_some_eq, cpyAt_eq (by omega) (by omega) (by omega), Int.toNat_natCast, Int.toNat_natCast]
     have e1 : (s.take (t * w.length)).length = t * w.length := by simp; omega
     have e2 : (s.drop (t * w.length)).length = b * w.length - t * w.length := by simp; omega
     rw [e1, e2, hl, w64_in (by omega) (by omega), Nat.min_comm (b * w.length - t * w.length)]
     congr 4
    rw [run_next hbody]
    have hrp : rpF b w = rpF t w ++ rpF (b - t) w := by rw [← rp_add]; congr 1; omega
    have htk : s.take (t * w.length) = rpF t w := by
     rw [ht, hrp, List.take_append_of_le_length (by rw [rp_len]; exact Nat.le_refl _), List.take_of_length_le (by rw [rp_len]; exact Nat.le_refl _)]
    have hbt : b * w.length - t * w.length = (b - t) * w.length := by rw [Nat.sub_mul]
    refine rep_loop w b hN f (t * w.length + min (t * w.length) (b * w.length - t * w.length)) _ (by omega) (by simp; omega) (by omega) ?_ (by omega) ?_
    ·have hk1 : min (t * w.length) (b * w.length - t * w.length) ≤ t * w.length := Nat.min_le_left _ _
     have hk2 : min (t * w.length) (b * w.length - t * w.length) ≤ (b - t) * w.length := by rw [← hbt]; exact Nat.min_le_right _ _
     generalize min (t * w.length) (b * w.length - t * w.length) = k at hk1 hk2
     have e3 : (rpF t w).take k = (rpF (b - t) w).take k := rp_take w hk1 hk2
     have hl1 : (rpF t w).length = t * w.length := rp_len t w
     have e4 : (rpF t w ++ rpF (b - t) w).take (t * w.length + k) = rpF t w ++ (rpF (b - t) w).take k := by
      rw [← hl1]
      exact List.take_length_add_append ..
     have e5 : (rpF t w ++ (rpF t w).take k).length = t * w.length + k := by
      rw [List.length_append, List.length_take, hl1]
      omega
     rw [htk, hrp, List.take_left' e5, e4, e3]
    ·rcases Nat.le_total (t * w.length) (b * w.length - t * w.length) with h | h
     ·rw [Nat.min_eq_left h]
      right
      refine ⟨t + t, by rw [Nat.add_mul], ?_⟩
      have hw : 0 < w.length := Nat.pos_of_ne_zero fun e => by rw [e] at h1; omega
      have : (t + t) * w.length ≤ b * w.length := by rw [Nat.add_mul]; omega
      exact Nat.le_of_mul_le_mul_right this hw
     ·rw [Nat.min_eq_right h]
      left
      omega
theorem rep_word (w : List Int) (hw : 1 ≤ w.length ∧ w.length ≤ 20) {b : Nat} (hb : 1 ≤ b ∧ b ≤ 20) : F_slices_Repeat_Sint64_int64 w (b : Int) = some (rpF b w) := by
 have hN : b * w.length ≤ 400 := by
  have := Nat.mul_le_mul hb.2 hw.2
  omega
 have h1N : w.length ≤ b * w.length := by
  have := Nat.mul_le_mul_right w.length hb.1
  omega
 have hcomm : w.length * b = b * w.length := Nat.mul_comm _ _
 unfold F_slices_Repeat_Sint64_int64
 rw [decide_eq_false (by omega : ¬ (b : Int) < 0), cond_false, bnd_some_eq]
 simp only [Out.elim]
 rw [mul_small w.length (by omega) b (by omega), bnd_some_eq]
 simp only
 rw [decide_eq_false (by omega), cond_false, decide_eq_false (by omega), cond_false, bnd_some_eq]
 simp only [Out.elim]
 rw [hcomm, w64_in (by omega) (by omega), mke_nat (by omega), bnd_some_eq]
 have hmin : min (List.replicate (b * w.length) (0 : Int)).length w.length = w.length := by
  rw [List.length_replicate]
  omega
 rw [hmin]
 have hcp : cpy (List.replicate (b * w.length) (0 : Int)) w = w ++ List.replicate (b * w.length - w.length) 0 := by
  unfold cpy
  rw [hmin, List.take_length, List.drop_replicate]
 rw [hcp, rep_loop w b (by omega) (b * w.length) w.length _ (by omega) (by simp; omega) (by omega) ?_ hw.1 (.inr ⟨1, by omega, hb.1⟩), bnd_some_eq]
 ·rfl
 ·rw [List.take_left]
  have := rp_take w (c := 1) (d := b) (k := w.length) (by omega) (by omega)
  rw [rp_one, List.take_length] at this
  exact this
def wallB (S : Int) (w : List Int) : Bool := decide (w.length ≤ 100) && w.all fun x => inB x 0 (S - 1)
def repB (S : Int) (w : List Int) : Bool := inB (w.length : Int) 1 20 && w.all fun x => inB x 0 (S - 1)
def atB (f : GFormula) : Bool := inB f.At 0 (((f.Walls.getD f.Head.toNat []).length : Int) - 1) || ((decide (f.At = ((f.Walls.getD f.Head.toNat []).length : Int)) && decide (f.Head < (f.Repeats.length : Int))) || (decide (f.At = -1) && decide (0 < f.Head)))
def formB (m : GMachine) (f : GFormula) : Bool := inB f.State 0 (m.States - 1) && (f.Walls.all (wallB m.Symbols) && (f.Repeats.all (repB m.Symbols) && ((f.Offsets.all fun x => inB x (-1000) 1000) && atB f)))
structure Frm (f : GFormula) : Prop where
 r1 : 1 ≤ f.Repeats.length
 r3 : f.Repeats.length ≤ 3
 lw : f.Walls.length = f.Repeats.length + 1
 lo : f.Offsets.length = f.Repeats.length
 h0 : 0 ≤ f.Head
 hr : f.Head ≤ f.Repeats.length
 sw : ∀ w ∈ f.Walls, w.length ≤ 1000
 sr : ∀ w ∈ f.Repeats, w.length ≤ 1000
theorem getDl {α : Type} {xs : List α} {k : Nat} (d : α) (h : k < xs.length) : xs.getD k d = xs[k] := by
 rw [List.getD_eq_getElem?_getD, List.getElem?_eq_getElem h]
 rfl
theorem im_form {m : GMachine} (hS : 2 ≤ m.Symbols ∧ m.Symbols ≤ 6) (hQ : 1 ≤ m.States ∧ m.States ≤ 1000) {f : GFormula} (h : Frm f) : F_impl_formulaOf m f = some (formB m f) := by
 obtain ⟨r1, r3, lw, lo, h0, hr, sw, sr⟩ := h
 have hhd : f.Head.toNat < f.Walls.length := by omega
 have hH : ((f.Head.toNat : Nat) : Int) = f.Head := by omega
 unfold F_impl_formulaOf formB
 simp only [F_impl_size_Sint64, F_impl_size_int64, bnd_some_eq, impl_in]
 rw [w64_in (n := m.States - 1) (by omega) (by omega)]
 cases inB f.State 0 (m.States - 1)
 ·rfl
 rw [inB_iff.2 (by omega : (1 : Int) ≤ (f.Repeats.length : Int) ∧ (f.Repeats.length : Int) ≤ 3)]
 simp only [Bool.not_true, cond_false, bnd_some_eq, Bool.true_and]
 rw [w64_nat1 (by omega), decide_eq_false (by omega), cond_false, decide_eq_false (by omega), cond_false, bnd_some_eq]
 simp only [Out.elim]
 rw [run_allp f.Walls (by omega) (wallB m.Symbols) (.ret false) (.brk (f.Walls.length : Int)) (fun i hi => by
  have hl := sw _ (List.getElem_mem hi)
  simp only [F_impl_formulaOf_L1, Int.ofNat_lt, hi, decide_true, cond_true, idx_nat hi, bnd_some_eq]
  unfold wallB
  by_cases h1 : f.Walls[i].length ≤ 100
  ·rw [decide_eq_false (by omega), cond_false, impl_allWithin _ _ _ (by omega), bnd_some_eq, decide_eq_true h1, Bool.true_and, w64_in (by omega) (by omega)]
   cases f.Walls[i].all fun x => inB x 0 (m.Symbols - 1) <;> rfl
  ·rw [decide_eq_true (by omega), cond_true, decide_eq_false h1]
   rfl) (by simp [F_impl_formulaOf_L1])]
 cases f.Walls.all (wallB m.Symbols)
 ·rfl
 rw [cond_true, bnd_some_eq]
 simp only [Bool.true_and]
 rw [run_allp f.Repeats (by omega) (repB m.Symbols) (.ret false) (.brk (f.Repeats.length : Int)) (fun i hi => by
  have hl := sr _ (List.getElem_mem hi)
  simp only [F_impl_formulaOf_L2, F_impl_size_int64, Int.ofNat_lt, hi, decide_true, cond_true, idx_nat hi, bnd_some_eq, impl_in]
  unfold repB
  cases inB (f.Repeats[i].length : Int) 1 20
  ·rfl
  ·simp only [Bool.not_true, cond_false, Bool.true_and]
   rw [impl_allWithin _ _ _ (by omega), bnd_some_eq, w64_in (by omega) (by omega)]
   cases f.Repeats[i].all fun x => inB x 0 (m.Symbols - 1) <;> rfl) (by simp [F_impl_formulaOf_L2])]
 cases f.Repeats.all (repB m.Symbols)
 ·rfl
 rw [cond_true, bnd_some_eq]
 simp only [Bool.true_and]
 rw [impl_allWithin _ _ _ (by omega), bnd_some_eq]
 cases f.Offsets.all fun x => inB x (-1000) 1000
 ·rfl
 rw [inB_iff.2 ⟨h0, hr⟩]
 simp only [Bool.not_true, cond_false, bnd_some_eq, Bool.true_and]
 have hix : idx f.Walls f.Head = some f.Walls[f.Head.toNat] := by
  have := idx_nat hhd
  rwa [hH] at this
 have hlen := sw _ (List.getElem_mem hhd)
 rw [hix]
 simp only [bnd_some_eq, Out.elim]
 unfold atB
 rw [getDl [] hhd, w64_in (by omega) (by omega)]
 cases inB f.At 0 ((f.Walls[f.Head.toNat].length : Int) - 1)
 ·simp only [cond_false, Bool.false_or, bnd_some_eq]
  cases decide (f.At = (f.Walls[f.Head.toNat].length : Int)) <;> cases decide (f.Head < (f.Repeats.length : Int)) <;> cases decide (f.At = -1) <;> rfl
 ·rfl
def sgF (f : GFormula) (ns : List Nat) (i : Nat) : List Int := f.Walls.getD i [] ++ rpF (ns.getD i 0) (f.Repeats.getD i [])
def preF (f : GFormula) (ns : List Nat) (k : Nat) : List Int := (List.range k).flatMap (sgF f ns)
def cellsF (f : GFormula) (ns : List Nat) : List Int := preF f ns f.Walls.length
theorem pre_succ (f : GFormula) (ns : List Nat) (k : Nat) : preF f ns (k + 1) = preF f ns k ++ sgF f ns k := by
 unfold preF
 rw [List.range_succ, List.flatMap_append, List.flatMap_singleton]
theorem pre_le (f : GFormula) (ns : List Nat) {i k : Nat} (h : i ≤ k) : (preF f ns i).length ≤ (preF f ns k).length := by
 induction k with
 | zero => rw [show i = 0 by omega]; exact Nat.le_refl _
 | succ k ih =>
  by_cases e : i = k + 1
  ·rw [e]; exact Nat.le_refl _
  ·rw [pre_succ, List.length_append]
   have := ih (by omega)
   omega
structure FmC (f : GFormula) (counts : List Int) (ns : List Nat) : Prop where
 fr : Frm f
 lc : counts.length = f.Repeats.length
 ln : ns.length = f.Repeats.length
 c0 : ∀ i, i < f.Repeats.length → 0 ≤ counts.getD i 0 ∧ counts.getD i 0 ≤ 64
 cn : ∀ i, i < f.Repeats.length → counts.getD i 0 + f.Offsets.getD i 0 = ((ns.getD i 0 : Nat) : Int)
 n1 : ∀ i, i < f.Repeats.length → 1 ≤ ns.getD i 0 ∧ ns.getD i 0 ≤ 20
 rl : ∀ w ∈ f.Repeats, 1 ≤ w.length ∧ w.length ≤ 20
 tot : (cellsF f ns).length ≤ 150
theorem fm_at {m : GMachine} (hm : machB m = true) {f : GFormula} {counts : List Int} {ns : List Nat} (C : FmC f counts ns) (hf : formB m f = true) {h : Nat} (hh : (h : Int) = ((preF f ns f.Head.toNat).length : Int) + f.At) (hle : h ≤ (cellsF f ns).length) :
  F_impl_FormulaAt m f counts = some (abC f.State ((cellsF f ns).take h) ((cellsF f ns).drop h), 0) := by
 obtain ⟨s, p, M⟩ := machB_mai hm
 have hS : 2 ≤ m.Symbols ∧ m.Symbols ≤ 6 := by rw [M.hs]; have := M.b1; have := M.b2; omega
 have hQ : 1 ≤ m.States ∧ m.States ≤ 1000 := by rw [M.hq]; have := M.b3; have := M.b4; omega
 obtain ⟨fr, lc, ln, c0, cn, n1, rl, tot⟩ := C
 have hlw := fr.lw
 have hlo := fr.lo
 have h0 := fr.h0
 have hr := fr.hr
 have r1 := fr.r1
 have r3 := fr.r3
 have hv : F_impl_ValidFormula m f = some true := by
  unfold F_impl_ValidFormula
  rw [impl_mach m (machB_sml hm), bnd_some_eq, hm, cond_true, im_form hS hQ fr, hf]
  rfl
 have hcall : (counts.all fun x => inB x 0 64) = true := List.all_eq_true.2 fun x hx => by
  obtain ⟨i, hi, rfl⟩ := List.mem_iff_getElem.1 hx
  have := c0 i (by omega)
  rw [getDl 0 hi] at this
  exact inB_iff.2 this
 unfold F_impl_FormulaAt
 rw [hv, bnd_some_eq]
 simp only [Bool.not_true, cond_false]
 rw [decide_eq_false (by omega), cond_false, impl_allWithin _ _ _ (by omega), bnd_some_eq, hcall]
 simp only [Bool.not_true, cond_false, bnd_some_eq, Out.elim]
 have hsum : ∀ i (hi : i < f.Repeats.length), counts[i]'(by omega) + f.Offsets[i]'(by omega) = ((ns.getD i 0 : Nat) : Int) := fun i hi => by
  have := cn i hi
  rwa [getDl 0 (by omega : i < counts.length), getDl 0 (by omega : i < f.Offsets.length)] at this
 rw [run_all counts.length (by omega) (fun _ => true) (.ret ((⟨0, ([] : List Int), ([] : List Int)⟩ : GConfig), 7)) (.brk (counts.length : Int)) (fun i hi _ => by
  have e := hsum i (by omega)
  simp only [F_impl_FormulaAt_L1]
  rw [decide_eq_true (by omega), cond_true, idx_nat hi, bnd_some_eq, idx_nat (by omega : i < f.Offsets.length), bnd_some_eq, e, w64_in (by omega) (by have := (n1 i (by omega)).2; omega), decide_eq_false (by omega), cond_false]) (fun i hi hp => by cases hp) (by simp [F_impl_FormulaAt_L1]), if_pos (fun _ _ => rfl), bnd_some_eq]
 simp only [Out.elim]
 have hH : ((f.Head.toNat : Nat) : Int) = f.Head := by omega
 have hpre : ∀ i, i ≤ f.Walls.length → (preF f ns i).length ≤ 150 := fun i hi => Nat.le_trans (pre_le f ns hi) tot
 have key : ∀ (n i : Nat) (hd : Int), i + n = f.Walls.length → hd = (if f.Head.toNat < i then ((preF f ns f.Head.toNat).length : Int) + f.At else 0) →
   run (F_impl_formulaAt_L1 f counts) (preF f ns i, hd, (i : Int)) = some (.brk (cellsF f ns, ((preF f ns f.Head.toNat).length : Int) + f.At, (f.Walls.length : Int))) := by
  intro n
  induction n with
  | zero =>
   intro i hd hi he
   obtain rfl : i = f.Walls.length := by omega
   rw [if_pos (by omega)] at he
   rw [he]
   refine run_done ?_
   simp only [F_impl_formulaAt_L1]
   rw [decide_eq_false (by omega), cond_false]
   rfl
  | succ n ih =>
   intro i hd hi he
   have hiw : i < f.Walls.length := by omega
   have hp := hpre i (by omega)
   have hwl := fr.sw _ (List.getElem_mem hiw)
   have hnew : (cond (decide ((i : Int) = f.Head)) (some (.brk (w64 (((preF f ns i).length : Int) + f.At)))) (some (.brk hd)) : Option (Out Int (GConfig × Int))) = some (.brk (if f.Head.toNat < i + 1 then ((preF f ns f.Head.toNat).length : Int) + f.At else 0)) := by
    by_cases hih : (i : Int) = f.Head
    ·have : f.Head.toNat = i := by omega
     rw [decide_eq_true hih, cond_true, this, if_pos (by omega), w64_in (by rw [this] at hh; omega) (by rw [this] at hh; omega)]
    ·rw [decide_eq_false hih, cond_false, he]
     by_cases hlt : f.Head.toNat < i
     ·rw [if_pos hlt, if_pos (by omega)]
     ·rw [if_neg hlt, if_neg (by omega)]
   have hbody : F_impl_formulaAt_L1 f counts (preF f ns i, hd, (i : Int)) = some (.inl (preF f ns (i + 1), (if f.Head.toNat < i + 1 then ((preF f ns f.Head.toNat).length : Int) + f.At else 0), ((i + 1 : Nat) : Int))) := by
    simp only [F_impl_formulaAt_L1]
    rw [decide_eq_true (by omega), cond_true, idx_nat hiw, bnd_some_eq, hnew, bnd_some_eq]
    simp only [Out.elim]
    rw [app_ok (by omega), bnd_some_eq, w64_nat1 (by omega), pre_succ]
    unfold sgF
    rw [getDl [] hiw]
    by_cases hir : i < f.Repeats.length
    ·have e := hsum i hir
     have hrl := rl _ (List.getElem_mem hir)
     rw [decide_eq_true (by omega), cond_true, idx_nat hir, bnd_some_eq, idx_nat (by omega : i < counts.length), bnd_some_eq, idx_nat (by omega : i < f.Offsets.length), bnd_some_eq, e, w64_in (by omega) (by have := (n1 i hir).2; omega), rep_word _ hrl (n1 i hir), bnd_some_eq,
      app_ok (by
       rw [List.length_append, rp_len]
       have := Nat.mul_le_mul (n1 i hir).2 hrl.2
       omega), bnd_some_eq, getDl [] hir, List.append_assoc]
    ·rw [decide_eq_false (by omega), cond_false]
     have e0 : f.Repeats.getD i [] = [] := by rw [List.getD_eq_getElem?_getD, List.getElem?_eq_none (by omega)]; rfl
     rw [e0, rp_nil, List.append_nil]
   rw [run_next hbody]
   exact ih (i + 1) _ (by omega) rfl
 have hloop := key f.Walls.length 0 0 (by omega) (by rw [if_neg (by omega)])
 have ez : ((0 : Nat) : Int) = 0 := rfl
 have e00 : preF f ns 0 = [] := rfl
 rw [ez, e00, ← hh] at hloop
 unfold F_impl_formulaAt
 rw [hloop, bnd_some_eq]
 simp only [Out.elim]
 rw [decide_eq_false (by omega), cond_false, bnd_some_eq]
 simp only [Out.elim]
 have hz2 : slc (cellsF f ns) 0 (h : Int) = some ((cellsF f ns).take h) := by
  have := slc_ok (xs := cellsF f ns) (lo := 0) (hi := h) (Nat.zero_le _) hle
  rw [List.drop_zero] at this
  exact this
 have hz1 : slc (cellsF f ns) (h : Int) ((cellsF f ns).length : Int) = some ((cellsF f ns).drop h) := by
  rw [slc_ok hle (Nat.le_refl _), List.take_length]
 have hlt : ((cellsF f ns).take h).length ≤ 150 := by rw [List.length_take]; omega
 have hld : ((cellsF f ns).drop h).length ≤ 150 := by rw [List.length_drop]; omega
 have hsm := ab_small (q := f.State) (A := (cellsF f ns).take h) (B := (cellsF f ns).drop h) (by omega) (by omega)
 unfold small at hsm
 rw [Bool.and_eq_true, decide_eq_true_eq, decide_eq_true_eq] at hsm
 rw [hz2, bnd_some_eq, hz1, bnd_some_eq, impl_reversed _ (by omega), bnd_some_eq, impl_trimmed _ (by rw [List.length_reverse]; omega), bnd_some_eq, impl_clone' _ (by omega), bnd_some_eq, impl_trimmed _ (by omega), bnd_some_eq]
 have hroom : F_impl_roomy (abC f.State ((cellsF f ns).take h) ((cellsF f ns).drop h)) = some true := by
  unfold F_impl_roomy
  rw [decide_eq_true (by omega), cond_true, decide_eq_true (by omega)]
 unfold abC at hroom ⊢
 rw [hroom, bnd_some_eq]
 rfl
end Go.Fn
