/-
  Plain laws, part 1. No program in sight. No condition.
-/
import Derived.Test.YtlepdmenejbleaaGreatHelp
import Derived.Test.YtlepdmenejbleaaGreatLaw
import Derived.Test.YtlepdmenejbleaaGreatTy
namespace Go.Fn
open Go Go.Tc
theorem spec_in (x lo hi : Int) : F_spec_l00In x lo hi = some (inB x lo hi) := by
 unfold F_spec_l00In inB
 cases decide (lo ≤ x) <;> rfl
theorem impl_in (x lo hi : Int) : F_impl_within x lo hi = some (inB x lo hi) := by
 unfold F_impl_within inB
 cases decide (lo ≤ x) <;> rfl
theorem impl_allWithin (xs : List Int) (lo hi : Int) (h : xs.length ≤ 1048576) : F_impl_allWithin xs lo hi = some (xs.all fun x => inB x lo hi) := by
 unfold F_impl_allWithin
 rw [run_all xs.length (by omega) (fun i => inB (xs.getD i 0) lo hi) (.ret false) (.brk (xs.length : Int)) ?_ ?_ ?_]
 ·have : (∀ i, i < xs.length → inB (xs.getD i 0) lo hi = true) ↔ (xs.all fun x => inB x lo hi) = true := by
   rw [List.all_eq_true]
   constructor
   ·intro h x hx
    obtain ⟨i, hi, rfl⟩ := List.getElem_of_mem hx
    simpa [hi] using h i hi
   ·intro h i hi
    simpa [hi] using h _ (List.getElem_mem hi)
  by_cases e : (xs.all fun x => inB x lo hi) = true
  ·rw [if_pos (this.2 e), e]; rfl
  ·rw [if_neg (fun k => e (this.1 k))]
   simp only [Bool.not_eq_true] at e
   rw [e]; rfl
 ·intro i hi hp
  simp only [List.getD_eq_getElem?_getD, List.getElem?_eq_getElem hi, Option.getD_some] at hp
  simp [F_impl_allWithin_L1, hi, idx_nat hi, impl_in, hp]
 ·intro i hi hp
  simp only [List.getD_eq_getElem?_getD, List.getElem?_eq_getElem hi, Option.getD_some] at hp
  simp [F_impl_allWithin_L1, hi, idx_nat hi, impl_in, hp]
 ·simp [F_impl_allWithin_L1]
theorem nodup_iff {α : Type} {xs : List α} : xs.Nodup ↔ ∀ i (hi : i < xs.length) j (hj : j < i), xs[j] ≠ xs[i] := by
 rw [List.nodup_iff_pairwise_ne, List.pairwise_iff_getElem]
 constructor
 ·intro h i hi j hj
  exact h j i (by omega) hi hj
 ·intro h i j hi hj hij
  exact h j hj i hij
end Go.Fn
namespace Go.Fn
open Go Go.Tc
theorem idx_last {xs : List Int} (h0 : xs.length ≠ 0) (h : xs.length ≤ 1048576) : idx xs (w64 ((xs.length : Int) - 1)) = some (xs.getLastD 0) := by
 rw [w64_in (by omega) (by omega), show (xs.length : Int) - 1 = ((xs.length - 1 : Nat) : Int) by omega, idx_nat (by omega)]
 congr 1
 rw [List.getLastD_eq_getLast?, List.getLast?_eq_getElem?, List.getElem?_eq_getElem (by omega)]
 rfl
theorem any_not {α : Type} (xs : List α) (p : α → Bool) : (!(xs.any fun x => !p x)) = xs.all p := by
 rw [List.not_any_eq_all_not]
 simp
theorem impl_equal (a b : List Int) (h : a.length ≤ 1048576) : F_slices_Equal_Sint64_int64 a b = some (decide (a = b)) := by
 unfold F_slices_Equal_Sint64_int64
 by_cases hl : a.length = b.length
 ·rw [decide_eq_false (by omega), cond_false, run_all a.length (by omega) (fun i => decide (a[i]? = b[i]?)) (.ret false) (.brk (a.length : Int)) ?_ ?_ ?_]
  ·by_cases e : a = b
   ·subst e
    simp [Out.elim]
   ·rw [if_neg, decide_eq_false e]
    ·rfl
    ·intro k
     refine e (List.ext_getElem? fun i => ?_)
     by_cases hi : i < a.length
     ·simpa using k i hi
     ·rw [List.getElem?_eq_none (by omega), List.getElem?_eq_none (by omega)]
  ·intro i hi hp
   have hb : i < b.length := by omega
   simp [List.getElem?_eq_getElem hi, List.getElem?_eq_getElem hb] at hp
   simp [F_slices_Equal_Sint64_int64_L1, hi, idx_nat hi, idx_nat hb, hp]
  ·intro i hi hp
   have hb : i < b.length := by omega
   simp [List.getElem?_eq_getElem hi, List.getElem?_eq_getElem hb] at hp
   simp [F_slices_Equal_Sint64_int64_L1, hi, idx_nat hi, idx_nat hb, hp]
  ·simp [F_slices_Equal_Sint64_int64_L1]
 ·rw [decide_eq_true (by omega), decide_eq_false (fun e => hl (by rw [e]))]; rfl
end Go.Fn
namespace Go.Tc
open Go
theorem run_rowf {α σ S X : Type} {body : S → Option (S ⊕ X)} (xs : List α) (hn : xs.length ≤ 4611686018427387903) (st : σ → Int → S) (f : σ → α → σ) (I : Nat → σ → Prop)
  (h : ∀ (i : Nat) (hi : i < xs.length) (a : σ), I i a → body (st a (i : Int)) = some (.inl (st (f a xs[i]) (w64 ((i : Int) + 1)))) ∧ I (i + 1) (f a xs[i])) (a0 : σ) (h0 : I 0 a0) :
  run body (st a0 0) = run body (st (xs.foldl f a0) (xs.length : Int)) ∧ I xs.length (xs.foldl f a0) := by
 have key : ∀ k i a, i + k = xs.length → I i a → run body (st a (i : Int)) = run body (st ((xs.drop i).foldl f a) (xs.length : Int)) ∧ I xs.length ((xs.drop i).foldl f a) := by
  intro k
  induction k with
  | zero =>
   intro i a hi hI
   obtain rfl : i = xs.length := by omega
   rw [List.drop_length]
   exact ⟨rfl, hI⟩
  | succ k ih =>
   intro i a hi hI
   have hlt : i < xs.length := by omega
   obtain ⟨e, hI'⟩ := h i hlt a hI
   rw [run_next e, w64_nat1 (by omega), List.drop_eq_getElem_cons hlt, List.foldl_cons]
   exact ih (i + 1) _ (by omega) hI'
 have := key xs.length 0 a0 (by omega) h0
 rwa [List.drop_zero, show ((0 : Nat) : Int) = 0 from rfl] at this
theorem run_rowx {α σ S X : Type} {body : S → Option (S ⊕ X)} (xs : List α) (hn : xs.length ≤ 4611686018427387903) (st : σ → Int → S) (f : σ → α → σ) (p : α → Bool) (x : X) (I : Nat → σ → Prop)
  (h : ∀ (i : Nat) (hi : i < xs.length) (a : σ), I i a → p xs[i] = true → body (st a (i : Int)) = some (.inl (st (f a xs[i]) (w64 ((i : Int) + 1)))) ∧ I (i + 1) (f a xs[i]))
  (hx : ∀ (i : Nat) (hi : i < xs.length) (a : σ), I i a → p xs[i] = false → body (st a (i : Int)) = some (.inr x)) (a0 : σ) (h0 : I 0 a0) :
  (xs.all p = false → run body (st a0 0) = some x) ∧ (xs.all p = true → run body (st a0 0) = run body (st (xs.foldl f a0) (xs.length : Int)) ∧ I xs.length (xs.foldl f a0)) := by
 have key : ∀ k i a, i + k = xs.length → I i a → ((xs.drop i).all p = false → run body (st a (i : Int)) = some x) ∧ ((xs.drop i).all p = true → run body (st a (i : Int)) = run body (st ((xs.drop i).foldl f a) (xs.length : Int)) ∧ I xs.length ((xs.drop i).foldl f a)) := by
  intro k
  induction k with
  | zero =>
   intro i a hi hI
   obtain rfl : i = xs.length := by omega
   rw [List.drop_length]
   exact ⟨fun h => by simp at h, fun _ => ⟨rfl, hI⟩⟩
  | succ k ih =>
   intro i a hi hI
   have hlt : i < xs.length := by omega
   rw [List.drop_eq_getElem_cons hlt, List.foldl_cons, List.all_cons]
   cases hp : p xs[i] with
   | false =>
    refine ⟨fun _ => run_done (hx i hlt a hI hp), fun h => by simp at h⟩
   | true =>
    obtain ⟨e, hI'⟩ := h i hlt a hI hp
    rw [run_next e, w64_nat1 (by omega), Bool.true_and]
    exact ih (i + 1) _ (by omega) hI'
 have := key xs.length 0 a0 (by omega) h0
 rwa [List.drop_zero, show ((0 : Nat) : Int) = 0 from rfl] at this
theorem w64_add {n m : Nat} (h : n + m ≤ 4611686018427387904) : w64 ((n : Int) + (m : Int)) = ((n + m : Nat) : Int) := by
 rw [w64_in (by omega) (by omega)]
 omega
theorem idx_getD {α : Type} {xs : List α} {i : Int} (d : α) (h0 : 0 ≤ i) (h : i < xs.length) : idx xs i = some (xs.getD i.toNat d) := by
 rw [idx_int h0 h, List.getD_eq_getElem?_getD, List.getElem?_eq_getElem (by omega)]
 rfl
theorem foldl_app2 {α β γ : Type} (f : α → List β) (g : α → List γ) : ∀ (xs : List α) (a : List β) (b : List γ), xs.foldl (fun s x => (s.1 ++ f x, s.2 ++ g x)) (a, b) = (a ++ xs.flatMap f, b ++ xs.flatMap g)
 | [], a, b => by simp
 | x :: xs, a, b => by rw [List.foldl_cons, foldl_app2 f g xs]; simp
theorem foldl_app1 {α β : Type} (f : α → List β) : ∀ (xs : List α) (a : List β), xs.foldl (fun s x => s ++ f x) a = a ++ xs.flatMap f
 | [], a => by simp
 | x :: xs, a => by rw [List.foldl_cons, foldl_app1 f xs]; simp
theorem flatMap_length_le {α β : Type} (f : α → List β) {n : Nat} : ∀ (xs : List α), (∀ x ∈ xs, (f x).length ≤ n) → (xs.flatMap f).length ≤ xs.length * n
 | [], _ => by simp
 | x :: xs, h => by
  have h1 := h x (by simp)
  have h2 := flatMap_length_le f xs (fun y hy => h y (by simp [hy]))
  simp only [List.flatMap_cons, List.length_append, List.length_cons, Nat.add_mul]
  omega
end Go.Tc
namespace Go.Tc
open Go
theorem run_rangeL {β S X : Type} {body : S → Option (S ⊕ X)} (n : Nat) (hn : n ≤ 4611686018427387903) (st : List β → Int → S) (g : Nat → List β) (m : Nat) (hg : ∀ k, k < n → (g k).length ≤ m) (a0 : List β) (B : Nat) (h0 : a0.length ≤ B)
  (h : ∀ (i : Nat) (a : List β), i < n → a.length ≤ B + i * m → body (st a (i : Int)) = some (.inl (st (a ++ g i) (w64 ((i : Int) + 1))))) :
  run body (st a0 0) = run body (st (a0 ++ (List.range n).flatMap g) (n : Int)) := by
 have := (run_rowf (body := body) (List.range n) (by simpa using hn) st (fun a k => a ++ g k) (fun i a => a.length ≤ B + i * m) (by
  intro i hi a k
  simp only [List.length_range] at hi
  simp only [List.getElem_range]
  refine ⟨h i a hi k, ?_⟩
  have := hg i hi
  rw [List.length_append, Nat.succ_mul]
  omega) a0 (by omega)).1
 rw [foldl_app1, List.length_range] at this
 exact this
theorem w64_nat {n : Nat} (h : n ≤ 4611686018427387904) : w64 (n : Int) = n := w64_in (by omega) (by omega)
theorem w64_mul {n m : Nat} (h : n * m ≤ 4611686018427387904) : w64 ((n : Int) * (m : Int)) = ((n * m : Nat) : Int) := by
 rw [← Int.natCast_mul]
 exact w64_in (by omega) (by omega)
end Go.Tc
namespace Go.Fn
open Go Go.Tc
def noR : GRule := ⟨0, 0, -1⟩
def ruleB (s q : Int) (r : GRule) : Bool := decide (r = noR) || (inB r.Write 0 (s - 1) && ((decide (r.Move = 1) || decide (r.Move = -1)) && inB r.Next 0 (q - 1)))
def machB (m : GMachine) : Bool := inB m.Symbols 2 6 && inB m.States 1 1000 && decide ((m.Rules.length : Int) = m.Symbols * m.States) && m.Rules.all (ruleB m.Symbols m.States)
theorem inB_iff {x lo hi : Int} : inB x lo hi = true ↔ lo ≤ x ∧ x ≤ hi := by
 unfold inB
 simp only [Bool.and_eq_true, decide_eq_true_eq]
theorem impl_rule (m : GMachine) (r : GRule) (hs : 0 ≤ m.Symbols ∧ m.Symbols ≤ 1000000) (hq : 0 ≤ m.States ∧ m.States ≤ 1000000) : F_impl_validRule m r = some (ruleB m.Symbols m.States r) := by
 unfold F_impl_validRule F_impl_isRule F_impl_noRule ruleB noR
 rw [w64_in (by omega) (by omega), w64_in (by omega) (by omega)]
 simp only [bnd_some_eq, impl_in]
 cases decide (r = ⟨0, 0, -1⟩)
 ·cases inB r.Write 0 (m.Symbols - 1)
  ·rfl
  cases decide (r.Move = 1)
  ·cases decide (r.Move = -1) <;> rfl
  ·cases decide (r.Move = -1) <;> rfl
 ·rfl
theorem sq_in {s q : Int} (hs : 2 ≤ s ∧ s ≤ 6) (hq : 1 ≤ q ∧ q ≤ 1000) : 0 ≤ s * q ∧ s * q ≤ 6000 := by
 refine ⟨Int.mul_nonneg (by omega) (by omega), ?_⟩
 have h1 : s * q ≤ 6 * q := Int.mul_le_mul_of_nonneg_right hs.2 (by omega)
 omega
theorem impl_mach (m : GMachine) (h : Sml m) : F_impl_ValidMachine m = some (machB m) := by
 have h1 : m.Rules.length ≤ 1048576 := h.1
 unfold F_impl_ValidMachine F_impl_size_impl_Rule machB F_slices_ContainsFunc_Simpl_Rule_impl_Rule F_slices_IndexFunc_Simpl_Rule_impl_Rule
 simp only [bnd_some_eq, impl_in]
 cases hS : inB m.Symbols 2 6
 ·rfl
 cases hQ : inB m.States 1 1000
 ·rfl
 rw [inB_iff] at hS hQ
 have hm := sq_in hS hQ
 rw [Int.mul_comm m.States m.Symbols, w64_in (by omega) (by omega)]
 by_cases hl : (m.Rules.length : Int) = m.Symbols * m.States
 ·rw [decide_eq_true hl, decide_eq_false (by omega : ¬ (m.Rules.length : Int) ≠ m.Symbols * m.States)]
  simp only [Bool.not_true, cond_false, bnd_some_eq, Bool.true_and]
  rw [run_find m.Rules (by omega) (fun x => !ruleB m.Symbols m.States x) (fun i hi => by
   simp only [F_slices_IndexFunc_Simpl_Rule_impl_Rule_L1, F_impl_ValidMachine_1, Int.ofNat_lt, hi, decide_true, cond_true, idx_nat hi, bnd_some_eq, impl_rule m _ (by omega : 0 ≤ m.Symbols ∧ m.Symbols ≤ 1000000) (by omega : 0 ≤ m.States ∧ m.States ≤ 1000000)]
   cases ruleB m.Symbols m.States m.Rules[i] <;> rfl) (by simp [F_slices_IndexFunc_Simpl_Rule_impl_Rule_L1])]
  simp only [bnd_some_eq]
  rw [find_any, any_not]
 ·rw [decide_eq_false hl, decide_eq_true (show (m.Rules.length : Int) ≠ m.Symbols * m.States from hl)]
  rfl
theorem machB_nat {m : GMachine} (h : machB m = true) : ∃ s q : Nat, m.Symbols = s ∧ m.States = q ∧ 2 ≤ s ∧ s ≤ 6 ∧ 1 ≤ q ∧ q ≤ 1000 ∧ m.Rules.length = q * s ∧ q * s ≤ 6000 ∧ ∀ r ∈ m.Rules, ruleB m.Symbols m.States r = true := by
 unfold machB at h
 simp only [Bool.and_eq_true, decide_eq_true_eq, inB_iff] at h
 obtain ⟨⟨⟨hs, hq⟩, hl⟩, ha⟩ := h
 have hm := sq_in hs hq
 refine ⟨m.Symbols.toNat, m.States.toNat, by omega, by omega, by omega, by omega, by omega, by omega, ?_, ?_, List.all_eq_true.1 ha⟩
 ·have : ((m.States.toNat * m.Symbols.toNat : Nat) : Int) = m.Symbols * m.States := by
   rw [Int.natCast_mul, Int.toNat_of_nonneg (by omega), Int.toNat_of_nonneg (by omega), Int.mul_comm]
  omega
 ·have : ((m.States.toNat * m.Symbols.toNat : Nat) : Int) = m.Symbols * m.States := by
   rw [Int.natCast_mul, Int.toNat_of_nonneg (by omega), Int.toNat_of_nonneg (by omega), Int.mul_comm]
  omega
theorem flat_const {β : Type} (g : Nat → List β) (c : Nat) (h : ∀ k, (g k).length = c) : ∀ n, ((List.range n).flatMap g).length = n * c
 | 0 => by simp
 | n + 1 => by rw [List.range_succ, List.flatMap_append, List.length_append, flat_const g c h n, Nat.succ_mul]; simp [h]
theorem at_lt {p a s q : Nat} (hp : p < q) (ha : a < s) : p * s + a < q * s := by
 have : (p + 1) * s ≤ q * s := Nat.mul_le_mul_right s hp
 rw [Nat.succ_mul] at this
 omega
end Go.Fn
namespace Go.Fn
open Go Go.Tc
def trimL (xs : List Int) : List Int := (xs.reverse.dropWhile fun x => decide (x = 0)).reverse
theorem trimL_nil : trimL [] = [] := rfl
theorem trimL_snoc (ys : List Int) (y : Int) : trimL (ys ++ [y]) = if y = 0 then trimL ys else ys ++ [y] := by
 unfold trimL
 rw [List.reverse_append, List.reverse_singleton, List.singleton_append, List.dropWhile_cons]
 by_cases h : y = 0
 ·rw [if_pos h, decide_eq_true h, if_pos rfl]
 ·rw [if_neg h, decide_eq_false h, if_neg (by simp), List.reverse_cons, List.reverse_reverse]
theorem trimL_len (xs : List Int) : (trimL xs).length ≤ xs.length := by
 unfold trimL
 rw [List.length_reverse]
 have := (List.dropWhile_suffix (l := xs.reverse) (fun x => decide (x = 0))).length_le
 simpa using this
theorem snoc_cases {α : Type} (xs : List α) : xs = [] ∨ ∃ ys y, xs = ys ++ [y] := by
 rcases List.eq_nil_or_concat xs with h | ⟨ys, y, h⟩
 ·exact .inl h
 ·exact .inr ⟨ys, y, by simpa using h⟩
theorem idx_snoc {α : Type} (ys : List α) (y : α) (h : ys.length ≤ 1048576) : idx (ys ++ [y]) (w64 (((ys ++ [y]).length : Int) - 1)) = some y := by
 have e : w64 (((ys ++ [y]).length : Int) - 1) = (ys.length : Int) := by
  rw [List.length_append, List.length_singleton, w64_in (by omega) (by omega)]
  omega
 rw [e, idx_nat (by simp)]
 simp
theorem slc0 {α : Type} {xs : List α} {hi : Nat} (h : hi ≤ xs.length) : slc xs 0 (hi : Int) = some (xs.take hi) := by
 have := slc_ok (xs := xs) (lo := 0) (hi := hi) (Nat.zero_le _) h
 rw [List.drop_zero] at this
 exact this
theorem run_trimmed : ∀ (n : Nat) (xs : List Int), xs.length = n → n ≤ 1048576 → run F_impl_trimmed_L1 xs = some (.brk (trimL xs))
 | 0, xs, h, _ => by
  obtain rfl : xs = [] := List.eq_nil_of_length_eq_zero h
  exact run_done rfl
 | n + 1, xs, h, hn => by
  rcases snoc_cases xs with rfl | ⟨ys, y, rfl⟩
  ·simp at h
  have hy : ys.length = n := by simpa using h
  have hb : F_impl_trimmed_L1 (ys ++ [y]) = cond (decide (y = 0)) (some (.inl ys)) (some (.inr (.brk (ys ++ [y])))) := by
   unfold F_impl_trimmed_L1
   rw [decide_eq_true (by rw [h]; omega), cond_true, idx_snoc ys y (by omega), bnd_some_eq]
   have e : w64 (((ys ++ [y]).length : Int) - 1) = (ys.length : Int) := by
    rw [List.length_append, List.length_singleton, w64_in (by omega) (by omega)]
    omega
   rw [e, slc0 (by simp), bnd_some_eq, List.take_left]
  rw [trimL_snoc]
  by_cases hz : y = 0
  ·rw [if_pos hz, run_next (by rw [hb, decide_eq_true hz]; rfl)]
   exact run_trimmed n ys hy (by omega)
  ·rw [if_neg hz, run_done (by rw [hb, decide_eq_false hz]; rfl)]
theorem impl_trimmed (xs : List Int) (h : xs.length ≤ 1048576) : F_impl_trimmed xs = some (trimL xs) := by
 unfold F_impl_trimmed
 rw [run_trimmed _ xs rfl h]
 rfl
theorem spec_own' (xs : List Int) (h : xs.length ≤ 1048576) : F_spec_l00Own xs = some xs := by
 unfold F_spec_l00Own
 rw [app_ok (by simp; omega)]
 rfl
theorem impl_clone' (xs : List Int) (h : xs.length ≤ 1048576) : F_slices_Clone_Sint64_int64 xs = some xs := by
 unfold F_slices_Clone_Sint64_int64
 rw [app_ok (by simp; omega)]
 rfl
theorem run_trim {body : Int → Option (Int ⊕ Out Int (List Int))} (xs : List Int) (h : xs.length ≤ 1048576) (h0 : body 0 = some (.inr (.brk 0)))
  (h1 : ∀ (n : Nat) (hn : n < xs.length), body ((n : Int) + 1) = cond (decide (xs[n] = 0)) (some (.inl (n : Int))) (some (.inr (.brk ((n : Int) + 1))))) :
  ∀ n : Nat, n ≤ xs.length → ∃ k : Nat, k ≤ xs.length ∧ run body (n : Int) = some (.brk (k : Int)) ∧ xs.take k = trimL (xs.take n)
 | 0, _ => ⟨0, Nat.zero_le _, run_done h0, by simp [trimL_nil]⟩
 | n + 1, hn => by
  have hlt : n < xs.length := by omega
  have et : xs.take (n + 1) = xs.take n ++ [xs[n]] := (List.take_append_getElem hlt).symm
  rw [et, trimL_snoc]
  by_cases hz : xs[n] = 0
  ·obtain ⟨k, hk, hr, e⟩ := run_trim xs h h0 h1 n (by omega)
   refine ⟨k, hk, ?_, by rw [if_pos hz]; exact e⟩
   rw [Int.natCast_add, Int.natCast_one, run_next (by rw [h1 n hlt, decide_eq_true hz]; rfl)]
   exact hr
  ·refine ⟨n + 1, hn, ?_, by rw [if_neg hz, et]⟩
   rw [Int.natCast_add, Int.natCast_one, run_done (by rw [h1 n hlt, decide_eq_false hz]; rfl)]
theorem spec_trim (xs : List Int) (h : xs.length ≤ 1048576) : F_spec_l05Trim xs = some (trimL xs) := by
 unfold F_spec_l05Trim
 obtain ⟨k, hk, hr, e⟩ := run_trim (body := F_spec_l05Trim_L1 xs) xs h rfl (fun n hn => by
  have e : w64 ((n : Int) + 1 - 1) = (n : Int) := by rw [Int.add_sub_cancel]; exact w64_nat (by omega)
  simp only [F_spec_l05Trim_L1]
  rw [decide_eq_true (by omega), cond_true, e, idx_nat hn, bnd_some_eq]) xs.length (Nat.le_refl _)
 rw [hr]
 simp only [bnd_some_eq, Out.elim]
 rw [slc0 hk, bnd_some_eq, spec_own' _ (by rw [List.length_take]; omega), e, List.take_length]
 rfl
theorem impl_reversed (xs : List Int) (h : xs.length ≤ 1048576) : F_impl_reversed xs = some xs.reverse := by
 unfold F_impl_reversed
 rw [impl_clone' xs h, bnd_some_eq, w64_in (by omega) (by omega)]
 obtain ⟨o, ho, i, j, rfl⟩ := run_inv (body := F_impl_reversed_L1) (fun s => ∃ n : Nat, s.2.1 = n ∧ s.2.2 = (xs.length : Int) - 1 - n ∧ 2 * n ≤ xs.length ∧ s.1.length = xs.length ∧ ∀ k, k < xs.length → s.1[k]? = if k < n ∨ xs.length ≤ k + n then xs[xs.length - 1 - k]? else xs[k]?)
  (fun o => ∃ i j, o = .brk (xs.reverse, i, j)) (fun s => (s.2.2 - s.2.1 + 1).toNat) (by
   rintro ⟨a, i, j⟩ ⟨n, rfl, rfl, h2, hl, hk⟩
   simp only at hl hk
   by_cases hc : n + n + 1 < xs.length
   ·left
    have hj : (xs.length : Int) - 1 - n = ((xs.length - 1 - n : Nat) : Int) := by omega
    have hjn : xs.length - 1 - n < a.length := by omega
    have hnn : n < a.length := by omega
    have aj : a[xs.length - 1 - n]? = xs[xs.length - 1 - n]? := by rw [hk _ (by omega), if_neg (by omega)]
    have an : a[n]? = xs[n]? := by rw [hk _ (by omega), if_neg (by omega)]
    refine ⟨((a.set n a[xs.length - 1 - n]).set (xs.length - 1 - n) a[n], ((n + 1 : Nat) : Int), (xs.length : Int) - 1 - ((n + 1 : Nat) : Int)), ?_, ⟨n + 1, rfl, rfl, by omega, by simpa using hl, ?_⟩, ?_⟩
    ·simp only [F_impl_reversed_L1]
     rw [decide_eq_true (by omega), cond_true, hj, idx_nat hjn, bnd_some_eq, idx_nat hnn, bnd_some_eq, bnd_some_eq, idx_nat (by simpa using hjn), bnd_some_eq, w64_nat1 (by omega), w64_in (by omega) (by omega)]
     simp only [Int.toNat_natCast]
     congr 4
     omega
    ·intro k hkl
     have hset : (((a.set n a[xs.length - 1 - n]).set (xs.length - 1 - n) a[n])[k]?) = if k = xs.length - 1 - n then a[n]? else if k = n then a[xs.length - 1 - n]? else a[k]? := by
      rw [List.getElem?_set, List.getElem?_set, List.length_set]
      by_cases e1 : xs.length - 1 - n = k
      ·rw [if_pos e1, if_pos hjn, if_pos e1.symm, List.getElem?_eq_getElem hnn]
      ·rw [if_neg e1]
       by_cases e2 : n = k
       ·rw [if_pos e2, if_pos (by omega), if_neg (fun e => e1 e.symm), if_pos e2.symm, List.getElem?_eq_getElem hjn]
       ·rw [if_neg e2, if_neg (fun e => e1 e.symm), if_neg (fun e => e2 e.symm)]
     rw [hset]
     by_cases e1 : k = xs.length - 1 - n
     ·rw [if_pos e1, if_pos (by omega), an]
      congr 1
      omega
     ·rw [if_neg e1]
      by_cases e2 : k = n
      ·rw [if_pos e2, if_pos (by omega), aj, e2]
      ·rw [if_neg e2, hk k hkl]
       by_cases c : k < n ∨ xs.length ≤ k + n
       ·rw [if_pos c, if_pos (by omega)]
       ·rw [if_neg c, if_neg (by omega)]
    ·show ((xs.length : Int) - 1 - ((n + 1 : Nat) : Int) - ((n + 1 : Nat) : Int) + 1).toNat < ((xs.length : Int) - 1 - n - n + 1).toNat
     omega
   ·right
    refine ⟨.brk (xs.reverse, (n : Int), (xs.length : Int) - 1 - n), ?_, _, _, rfl⟩
    have ha : a = xs.reverse := by
     apply List.ext_getElem?
     intro k
     by_cases hkl : k < xs.length
     ·rw [hk k hkl, List.getElem?_reverse hkl]
      by_cases c : k < n ∨ xs.length ≤ k + n
      ·rw [if_pos c]
      ·rw [if_neg c]
       congr 1
       omega
     ·rw [List.getElem?_eq_none (by omega), List.getElem?_eq_none (by simp; omega)]
    simp only [F_impl_reversed_L1]
    rw [decide_eq_false (by omega), cond_false, ha]) (xs, 0, (xs.length : Int) - 1) ⟨0, rfl, by simp, by omega, rfl, fun k hk => by rw [if_neg (by omega)]⟩
 rw [ho]
 rfl
end Go.Fn
namespace Go.Fn
open Go Go.Tc
def wordB (xs : List Int) : Bool := decide (xs.length ≤ 400) && xs.all fun x => inB x 0 9
theorem dec_le {a b : Nat} {x y : Int} (hx : x = a) (hy : y = b) : decide (x ≤ y) = decide (a ≤ b) := by
 subst hx; subst hy
 rw [decide_eq_decide]; omega
theorem dec_lt {a b : Nat} {x y : Int} (hx : x = a) (hy : y = b) : decide (x < y) = decide (a < b) := by
 subst hx; subst hy
 rw [decide_eq_decide]; omega
theorem spec_word (xs : List Int) (h : xs.length ≤ 1048576) : F_spec_l03Is xs = some (wordB xs) := by
 unfold F_spec_l03Is wordB
 rw [run_allp xs (by omega) (fun x => inB x 0 9) (.ret false) (.brk (xs.length : Int)) (fun i hi => by
  simp only [F_spec_l03Is_L1, Int.ofNat_lt, hi, decide_true, cond_true, idx_nat hi, bnd_some_eq, spec_in]
  cases inB xs[i] 0 9 <;> rfl) (by simp [F_spec_l03Is_L1])]
 rw [← dec_le (x := (xs.length : Int)) (y := 400) rfl rfl]
 cases xs.all fun x => inB x 0 9
 ·simp [Out.elim]
 ·simp [Out.elim]
theorem impl_word (xs : List Int) (h : xs.length ≤ 1048576) : F_impl_IsWord xs = some (wordB xs) := by
 unfold F_impl_IsWord F_impl_isLetters wordB
 rw [impl_allWithin xs 0 9 h, ← dec_le (x := (xs.length : Int)) (y := 400) rfl rfl]
 cases decide ((xs.length : Int) ≤ 400) <;> rfl
theorem impl_areWords (xs : List (List Int)) (h : Sml xs) : F_impl_areWords xs = some (xs.all wordB) := by
 unfold F_impl_areWords F_slices_ContainsFunc_SSint64_Sint64 F_slices_IndexFunc_SSint64_Sint64
 have h1 := h.1
 rw [run_find xs (by omega) (fun x => !wordB x) (fun i hi => by
  simp only [F_slices_IndexFunc_SSint64_Sint64_L1, F_impl_areWords_1, Int.ofNat_lt, hi, decide_true, cond_true, idx_nat hi, bnd_some_eq, impl_word _ (h.mem hi).1]
  cases wordB xs[i] <;> rfl) (by simp [F_slices_IndexFunc_SSint64_Sint64_L1])]
 simp only [bnd_some_eq]
 rw [find_any, any_not]
def domB (d : GDomino) : Bool := wordB d.Top && wordB d.Bottom && decide (0 < d.Top.length + d.Bottom.length)
def domsB (ds : List GDomino) : Bool := decide (1 ≤ ds.length) && decide (ds.length ≤ 80) && ds.all domB
theorem spec_doms (ds : List GDomino) (h : Sml ds) : F_spec_l32Is ds = some (domsB ds) := by
 have h1 := h.1
 unfold F_spec_l32Is domsB
 rw [dec_lt (x := (ds.length : Int)) (y := (1 : Int)) rfl rfl, dec_lt (x := (80 : Int)) (y := (ds.length : Int)) rfl rfl]
 by_cases l1 : ds.length < 1
 ·rw [decide_eq_true l1, decide_eq_false (by omega : ¬ 1 ≤ ds.length)]; rfl
 by_cases l2 : 80 < ds.length
 ·rw [decide_eq_false l1, decide_eq_true l2, decide_eq_false (by omega : ¬ ds.length ≤ 80), Bool.and_false]; rfl
 rw [decide_eq_false l1, decide_eq_false l2, decide_eq_true (by omega : ds.length ≤ 80), decide_eq_true (by omega : 1 ≤ ds.length)]
 simp only [cond_false, bnd_some_eq, Out.elim, Bool.true_and]
 rw [run_allp ds (by omega) domB (.ret false) (.brk (ds.length : Int)) (fun i hi => by
  have hd := h.mem hi
  have e1 := hd.1.1
  have e2 := hd.2.1
  simp only [F_spec_l32Is_L1, Int.ofNat_lt, hi, decide_true, cond_true, idx_nat hi, bnd_some_eq, spec_word _ e1, spec_word _ e2]
  rw [w64_add (by omega)]
  unfold domB
  cases wordB ds[i].Top
  ·rfl
  cases wordB ds[i].Bottom
  ·rfl
  by_cases e : ds[i].Top.length + ds[i].Bottom.length = 0
  ·rw [decide_eq_true (by omega : ((ds[i].Top.length + ds[i].Bottom.length : Nat) : Int) = 0), decide_eq_false (by omega : ¬ 0 < ds[i].Top.length + ds[i].Bottom.length)]; rfl
  ·rw [decide_eq_false (by omega : ¬ ((ds[i].Top.length + ds[i].Bottom.length : Nat) : Int) = 0), decide_eq_true (by omega : 0 < ds[i].Top.length + ds[i].Bottom.length)]; rfl) (by simp [F_spec_l32Is_L1])]
 cases ds.all domB <;> rfl
theorem impl_dom (d : GDomino) (h : Sml d) : F_impl_validDomino d = some (domB d) := by
 have e1 := h.1.1
 have e2 := h.2.1
 unfold F_impl_validDomino domB
 rw [impl_areWords [d.Top, d.Bottom] ⟨by simp, by simp only [List.mem_cons, List.not_mem_nil, or_false]; exact fun x hx => hx.elim (fun e => e ▸ h.1) (fun e => e ▸ h.2)⟩, w64_add (by omega), dec_lt (x := (0 : Int)) (y := ((d.Top.length + d.Bottom.length : Nat) : Int)) rfl rfl]
 simp only [bnd_some_eq, List.all_cons, List.all_nil, Bool.and_true]
 cases wordB d.Top && wordB d.Bottom <;> rfl
theorem impl_doms (ds : List GDomino) (h : Sml ds) : F_impl_ValidDominoes ds = some (domsB ds) := by
 have h1 := h.1
 unfold F_impl_ValidDominoes F_impl_size_impl_Domino F_slices_ContainsFunc_Simpl_Domino_impl_Domino F_slices_IndexFunc_Simpl_Domino_impl_Domino domsB
 simp only [bnd_some_eq, impl_in]
 rw [run_find ds (by omega) (fun x => !domB x) (fun i hi => by
  simp only [F_slices_IndexFunc_Simpl_Domino_impl_Domino_L1, F_impl_ValidDominoes_1, Int.ofNat_lt, hi, decide_true, cond_true, idx_nat hi, bnd_some_eq, impl_dom _ (h.mem hi)]
  cases domB ds[i] <;> rfl) (by simp [F_slices_IndexFunc_Simpl_Domino_impl_Domino_L1])]
 simp only [bnd_some_eq]
 rw [find_any, any_not]
 have : inB (ds.length : Int) 1 80 = (decide (1 ≤ ds.length) && decide (ds.length ≤ 80)) := by
  unfold inB
  rw [dec_le (x := (1 : Int)) (y := (ds.length : Int)) rfl rfl, dec_le (x := (ds.length : Int)) (y := (80 : Int)) rfl rfl]
 rw [this]
 cases decide (1 ≤ ds.length) && decide (ds.length ≤ 80) <;> rfl
theorem domsB_len {ds : List GDomino} (h : domsB ds = true) : 1 ≤ ds.length ∧ ds.length ≤ 80 := by
 unfold domsB at h
 simp only [Bool.and_eq_true, decide_eq_true_eq] at h
 exact h.1
theorem domsB_mem {ds : List GDomino} (h : domsB ds = true) {d : GDomino} (hd : d ∈ ds) : d.Top.length ≤ 400 ∧ d.Bottom.length ≤ 400 := by
 unfold domsB at h
 simp only [Bool.and_eq_true, decide_eq_true_eq] at h
 have := List.all_eq_true.1 h.2 d hd
 unfold domB wordB at this
 simp only [Bool.and_eq_true, decide_eq_true_eq] at this
 exact ⟨this.1.1.1, this.1.2.1⟩
theorem spec_row (xs : List Int) (lo hi : Int) (h : xs.length ≤ 1048576) : F_spec_l06Row xs (xs.length : Int) lo hi = some (xs.all fun x => inB x lo hi) := by
 unfold F_spec_l06Row
 rw [decide_eq_false (by simp), cond_false, run_allp xs (by omega) (fun x => inB x lo hi) (.ret false) (.brk (xs.length : Int)) (fun i hi' => by
  simp only [F_spec_l06Row_L1, Int.ofNat_lt, hi', decide_true, cond_true, idx_nat hi', bnd_some_eq, spec_in]
  cases inB xs[i] lo hi <;> rfl) (by simp [F_spec_l06Row_L1])]
 cases xs.all fun x => inB x lo hi <;> rfl
theorem spec_same (a b : List Int) (h : a.length ≤ 1048576) : F_spec_l00Same a b = some (decide (a = b)) := by
 have := impl_equal a b h
 unfold F_slices_Equal_Sint64_int64 at this
 unfold F_spec_l00Same
 exact this
def rangeB (n : Nat) (ms : List Int) : Bool := decide (1 ≤ ms.length) && decide (ms.length ≤ 400) && ms.all fun m => inB m 0 ((n : Int) - 1)
def zD : GDomino := ⟨[], []⟩
def topsOf (ds : List GDomino) (ms : List Int) : List Int := ms.flatMap fun k => (ds.getD k.toNat zD).Top
def botsOf (ds : List GDomino) (ms : List Int) : List Int := ms.flatMap fun k => (ds.getD k.toNat zD).Bottom
def matchW (ds : List GDomino) (ms : List Int) : List Int × Int :=
 cond (rangeB ds.length ms) (cond (decide (4000 < (topsOf ds ms).length) || decide (4000 < (botsOf ds ms).length)) ([], 5) (cond (decide (topsOf ds ms = botsOf ds ms)) (topsOf ds ms, 0) ([], 6))) ([], 2)
theorem rangeB_mem {n : Nat} {ms : List Int} (h : rangeB n ms = true) {m : Int} (hm : m ∈ ms) : 0 ≤ m ∧ m < n := by
 unfold rangeB at h
 simp only [Bool.and_eq_true, decide_eq_true_eq] at h
 have := List.all_eq_true.1 h.2 m hm
 unfold inB at this
 simp only [Bool.and_eq_true, decide_eq_true_eq] at this
 omega
theorem rangeB_len {n : Nat} {ms : List Int} (h : rangeB n ms = true) : 1 ≤ ms.length ∧ ms.length ≤ 400 := by
 unfold rangeB at h
 simp only [Bool.and_eq_true, decide_eq_true_eq] at h
 exact h.1
theorem getD_len {ds : List GDomino} (h : domsB ds = true) (k : Nat) : (ds.getD k zD).Top.length ≤ 400 ∧ (ds.getD k zD).Bottom.length ≤ 400 := by
 rw [List.getD_eq_getElem?_getD]
 cases e : ds[k]? with
 | none => exact ⟨Nat.zero_le _, Nat.zero_le _⟩
 | some d => exact domsB_mem h (List.mem_of_getElem? e)
theorem tops_len {ds : List GDomino} (h : domsB ds = true) (ms : List Int) : (topsOf ds ms).length ≤ ms.length * 400 := flatMap_length_le _ ms fun k _ => (getD_len h k.toNat).1
theorem run_match {R : Type} {body : List Int × List Int × Int → Option ((List Int × List Int × Int) ⊕ Out (List Int × List Int × Int) R)} {ds : List GDomino} {ms : List Int} (hd : domsB ds = true) (hr : rangeB ds.length ms = true)
  (h1 : ∀ (i : Nat) (hi : i < ms.length) (a b : List Int), a.length ≤ i * 400 → b.length ≤ i * 400 → body (a, b, (i : Int)) = some (.inl (a ++ (ds.getD ms[i].toNat zD).Top, b ++ (ds.getD ms[i].toNat zD).Bottom, w64 ((i : Int) + 1))))
  (h2 : ∀ a b, body (a, b, (ms.length : Int)) = some (.inr (.brk (a, b, (ms.length : Int))))) : run body ([], [], 0) = some (.brk (topsOf ds ms, botsOf ds ms, (ms.length : Int))) := by
 have hl := rangeB_len hr
 have := (run_rowf (body := body) ms (by omega) (fun (a : List Int × List Int) i => (a.1, a.2, i)) (fun a k => (a.1 ++ (ds.getD k.toNat zD).Top, a.2 ++ (ds.getD k.toNat zD).Bottom)) (fun i a => a.1.length ≤ i * 400 ∧ a.2.length ≤ i * 400) (by
  rintro i hi ⟨a, b⟩ ⟨k1, k2⟩
  refine ⟨h1 i hi a b k1 k2, ?_, ?_⟩
  ·have := (getD_len hd ms[i].toNat).1
   simp only [List.length_append] at k1 ⊢
   omega
  ·have := (getD_len hd ms[i].toNat).2
   simp only [List.length_append] at k2 ⊢
   omega) ([], []) ⟨by simp, by simp⟩).1
 rw [foldl_app2] at this
 rw [this, run_done (h2 _ _)]
 rfl
theorem impl_range (ds : List GDomino) (ms : List Int) (hd : 1 ≤ ds.length ∧ ds.length ≤ 1048576) (hm : ms.length ≤ 1048576) : F_impl_matchRange ds ms = some (rangeB ds.length ms) := by
 unfold F_impl_matchRange F_impl_size_int64 F_impl_size_impl_Domino rangeB
 simp only [bnd_some_eq, impl_in]
 rw [w64_in (by omega) (by omega), impl_allWithin ms _ _ hm]
 have : inB (ms.length : Int) 1 400 = (decide (1 ≤ ms.length) && decide (ms.length ≤ 400)) := by
  unfold inB
  rw [dec_le (x := (1 : Int)) (y := (ms.length : Int)) rfl rfl, dec_le (x := (ms.length : Int)) (y := (400 : Int)) rfl rfl]
 rw [this]
 cases decide (1 ≤ ms.length) && decide (ms.length ≤ 400) <;> rfl
theorem impl_match (ds : List GDomino) (ms : List Int) (hd : domsB ds = true) (hm : ms.length ≤ 1048576) : F_impl_matchWord ds ms = some (matchW ds ms) := by
 have hl := domsB_len hd
 unfold F_impl_matchWord
 rw [impl_range ds ms (by omega) hm, bnd_some_eq]
 unfold matchW
 cases hr : rangeB ds.length ms
 ·rfl
 simp only [Bool.not_true, cond_false, cond_true]
 have hl2 := rangeB_len hr
 rw [run_match hd hr (fun i hi a b ka kb => by
  have hm := rangeB_mem hr (List.getElem_mem hi)
  have g := getD_len hd ms[i].toNat
  simp only [F_impl_matchWord_L1, Int.ofNat_lt, hi, decide_true, cond_true, idx_nat hi, bnd_some_eq, idx_getD zD hm.1 hm.2]
  rw [app_ok (by omega), bnd_some_eq, app_ok (by omega), bnd_some_eq]) (fun a b => by simp [F_impl_matchWord_L1])]
 have t := tops_len hd ms
 simp only [bnd_some_eq, Out.elim]
 rw [impl_equal _ _ (by omega), dec_lt (x := (4000 : Int)) (y := ((topsOf ds ms).length : Int)) rfl rfl, dec_lt (x := (4000 : Int)) (y := ((botsOf ds ms).length : Int)) rfl rfl]
 cases decide (4000 < (topsOf ds ms).length)
 ·cases decide (4000 < (botsOf ds ms).length)
  ·cases decide (topsOf ds ms = botsOf ds ms) <;> rfl
  ·rfl
 ·rfl
theorem ints_fit {xs : List Int} (h : xs.length ≤ 1048576) : Med xs ∧ Cnt.cnt xs ≤ 1152921504606846976 := ⟨⟨by omega, fun _ _ => trivial⟩, by rw [cnt_ints]; omega⟩
end Go.Fn
namespace Go.Tc
open Go
theorem foldl_snoc {α β : Type} (f : α → β) : ∀ (xs : List α) (a : List β), xs.foldl (fun s x => s ++ [f x]) a = a ++ xs.map f
 | [], a => by simp
 | x :: xs, a => by rw [List.foldl_cons, foldl_snoc f xs]; simp
theorem foldl_flat {β : Type} : ∀ (xs : List (List β)) (a : List β), xs.foldl (fun s x => s ++ x) a = a ++ xs.flatten
 | [], a => by simp
 | x :: xs, a => by rw [List.foldl_cons, foldl_flat xs]; simp
theorem all_and {α : Type} (p q : α → Bool) : ∀ xs : List α, (xs.all fun x => p x && q x) = (xs.all p && xs.all q)
 | [] => rfl
 | x :: xs => by
  rw [List.all_cons, List.all_cons, List.all_cons, all_and p q xs]
  cases p x <;> cases q x <;> simp
theorem slc_zero {α : Type} {xs : List α} : slc xs 0 ((0 : Nat) : Int) = some [] := by
 have := slc_ok (xs := xs) (lo := 0) (hi := 0) (Nat.le_refl 0) (Nat.zero_le _)
 simpa using this
theorem w64_00 : w64 (((0 : Nat) : Int) - ((0 : Nat) : Int)) = 0 := by
 rw [w64_in (by decide) (by decide)]; rfl
end Go.Tc
namespace Go.Fn
open Go Go.Tc
theorem impl_concat (xs : List (List Int)) (hn : xs.length ≤ 1048576) (h : xs.flatten.length ≤ 1048576) : F_slices_Concat_Sint64_int64 xs = some xs.flatten := by
 unfold F_slices_Concat_Sint64_int64
 have hdrop : ∀ (i : Nat) (hi : i < xs.length), (xs.drop i).flatten.length = xs[i].length + (xs.drop (i + 1)).flatten.length := fun i hi => by
  rw [List.drop_eq_getElem_cons hi, List.flatten_cons, List.length_append]
 obtain ⟨e1, e2⟩ := run_rowf (body := F_slices_Concat_Sint64_int64_L1 xs) xs (by omega) (fun (a : Int) i => (a, i)) (fun a x => a + (x.length : Int)) (fun i a => 0 ≤ a ∧ a + ((xs.drop i).flatten.length : Int) = (xs.flatten.length : Int)) (by
  rintro i hi a ⟨k0, k1⟩
  have := hdrop i hi
  have e : w64 (a + (xs[i].length : Int)) = a + (xs[i].length : Int) := w64_in (by omega) (by omega)
  refine ⟨?_, by omega, by omega⟩
  simp only [F_slices_Concat_Sint64_int64_L1, Int.ofNat_lt, hi, decide_true, cond_true, idx_nat hi, bnd_some_eq, e]
  rw [decide_eq_false (by omega), cond_false]) 0 ⟨by omega, by simp⟩
 rw [e1, run_done (x := .brk (xs.foldl (fun a x => a + (x.length : Int)) 0, (xs.length : Int))) (by simp [F_slices_Concat_Sint64_int64_L1])]
 rw [List.drop_length] at e2
 generalize xs.foldl (fun a x => a + (x.length : Int)) 0 = T at e2
 simp only [List.flatten_nil, List.length_nil] at e2
 simp only [bnd_some_eq, Out.elim]
 rw [decide_eq_false (by omega), cond_false, w64_00, w64_in (by omega) (by omega)]
 simp only [bnd_some_eq, Out.elim]
 have loop : ∀ (body : List Int × Int → Option ((List Int × Int) ⊕ Out (List Int × Int) (List Int))),
   (∀ (i : Nat) (hi : i < xs.length) (a : List Int), a.length + xs[i].length ≤ 1048576 → body (a, (i : Int)) = some (.inl (a ++ xs[i], w64 ((i : Int) + 1)))) →
   (∀ a, body (a, (xs.length : Int)) = some (.inr (.brk (a, (xs.length : Int))))) → run body ([], 0) = some (.brk (xs.flatten, (xs.length : Int))) := by
  intro body h1 h2
  have := (run_rowf (body := body) xs (by omega) (fun (a : List Int) i => (a, i)) (fun a x => a ++ x) (fun i a => a.length + (xs.drop i).flatten.length = xs.flatten.length) (by
   intro i hi a k
   have := hdrop i hi
   refine ⟨h1 i hi a (by omega), ?_⟩
   rw [List.length_append]; omega) [] (by simp)).1
  rw [foldl_flat, List.nil_append] at this
  rw [this, run_done (h2 _)]
 have l2 := loop (F_slices_Concat_Sint64_int64_L2 xs) (fun i hi a k => by
  simp only [F_slices_Concat_Sint64_int64_L2, Int.ofNat_lt, hi, decide_true, cond_true, idx_nat hi, bnd_some_eq]
  rw [app_ok (by omega), bnd_some_eq]) (fun a => by simp [F_slices_Concat_Sint64_int64_L2])
 have l3 := loop (F_slices_Concat_Sint64_int64_L3 xs) (fun i hi a k => by
  simp only [F_slices_Concat_Sint64_int64_L3, Int.ofNat_lt, hi, decide_true, cond_true, idx_nat hi, bnd_some_eq]
  rw [app_ok (by omega), bnd_some_eq]) (fun a => by simp [F_slices_Concat_Sint64_int64_L3])
 by_cases h0 : 0 < T - 0
 ·rw [decide_eq_true h0, cond_true]
  obtain ⟨n, hn⟩ : ∃ n : Nat, T - 0 = n := ⟨(T - 0).toNat, by omega⟩
  rw [hn, mke_nat (by omega), bnd_some_eq, slc_zero, bnd_some_eq, l2]
  rfl
 ·rw [decide_eq_false h0, cond_false, l3]
  rfl
theorem impl_joined (xs : List (List Int)) (hn : xs.length ≤ 1048576) (h : xs.flatten.length ≤ 1048576) : F_impl_joined xs = some xs.flatten := by
 unfold F_impl_joined
 rw [impl_concat xs hn h]
 rfl
def starW (w : List Int) (b : Bool) : List Int := w.flatMap fun c => cond b [c, 9] [9, c]
theorem starW_len (w : List Int) (b : Bool) : (starW w b).length ≤ w.length * 2 := flatMap_length_le _ w fun c _ => by cases b <;> simp
theorem run_star {body : List Int × Int → Option ((List Int × Int) ⊕ Out (List Int × Int) (List Int))} (w : List Int) (b : Bool) (hw : w.length ≤ 1048576)
  (h1 : ∀ (i : Nat) (hi : i < w.length) (a : List Int), a.length ≤ 2 * i → body (a, (i : Int)) = some (.inl (a ++ cond b [w[i], 9] [9, w[i]], w64 ((i : Int) + 1))))
  (h2 : ∀ a, body (a, (w.length : Int)) = some (.inr (.brk (a, (w.length : Int))))) : run body ([], 0) = some (.brk (starW w b, (w.length : Int))) := by
 have := (run_rowf (body := body) w (by omega) (fun (a : List Int) i => (a, i)) (fun a c => a ++ cond b [c, 9] [9, c]) (fun i a => a.length ≤ 2 * i) (by
  intro i hi a k
  refine ⟨h1 i hi a k, ?_⟩
  rw [List.length_append]
  cases b <;> simp <;> omega) [] (by simp)).1
 rw [foldl_app1, List.nil_append] at this
 rw [this, run_done (h2 _)]
 rfl
theorem impl_star (w : List Int) (b : Bool) (hw : w.length ≤ 1048576) : F_impl_spread w b = some (starW w b) := by
 unfold F_impl_spread
 rw [run_star w b hw (fun i hi a k => by
  simp only [F_impl_spread_L1, Int.ofNat_lt, hi, decide_true, cond_true, idx_nat hi, bnd_some_eq]
  rw [app_ok (by simp; omega), app_ok (by simp; omega)]
  cases b <;> rfl) (fun a => by simp [F_impl_spread_L1])]
 rfl
def leastB (k : Int) (d : GDomino) : Bool := (d.Top.all fun x => inB x 0 k) && (d.Bottom.all fun x => inB x 0 k)
def nonE (d : GDomino) : Bool := decide (d.Top.length ≠ 0) && decide (d.Bottom.length ≠ 0)
theorem spec_least (ds : List GDomino) (k : Int) (h : Sml ds) : F_spec_l32Least ds k = some (ds.all (leastB k)) := by
 have h1 := h.1
 unfold F_spec_l32Least
 rw [run_allp ds (by omega) (leastB k) (.ret false) (.brk (ds.length : Int)) (fun i hi => by
  have hd := h.mem hi
  simp only [F_spec_l32Least_L1, Int.ofNat_lt, hi, decide_true, cond_true, idx_nat hi, bnd_some_eq, spec_row _ _ _ hd.1.1, spec_row _ _ _ hd.2.1]
  unfold leastB
  cases ds[i].Top.all fun x => inB x 0 k
  ·rfl
  cases ds[i].Bottom.all fun x => inB x 0 k <;> rfl) (by simp [F_spec_l32Least_L1])]
 cases ds.all (leastB k) <;> rfl
theorem dec_zero (n : Nat) : decide ((n : Int) = 0) = !decide (n ≠ 0) := by
 by_cases h : n = 0
 ·subst h; rfl
 ·rw [decide_eq_false (by omega : ¬ (n : Int) = 0), decide_eq_true h]; rfl
def starD (d : GDomino) : GDomino := ⟨starW d.Top true, starW d.Bottom false⟩
def firstD (d : GDomino) : GDomino := ⟨9 :: starW d.Top true, starW d.Bottom false⟩
def lastD : GDomino := ⟨[8], [9, 8]⟩
def plainL (ds : List GDomino) : List GDomino := [firstD (ds.getD 0 zD)] ++ ds.map starD ++ [lastD]
def plainP (ds : List GDomino) : List GDomino × Int := cond (ds.all (leastB 7) && ds.all nonE) (cond (domsB (plainL ds)) (plainL ds, 0) ([], 5)) ([], 2)
theorem plainL_len (ds : List GDomino) : (plainL ds).length = ds.length + 2 := by simp [plainL]
theorem plainL_sml {ds : List GDomino} (h : domsB ds = true) : Sml (plainL ds) := by
 have hl := domsB_len h
 refine ⟨by rw [plainL_len]; omega, fun d hd => ?_⟩
 have key : ∀ e : GDomino, e.Top.length ≤ 400 ∧ e.Bottom.length ≤ 400 → Sml (starD e) ∧ Sml (firstD e) := by
  rintro e ⟨k1, k2⟩
  have s1 := starW_len e.Top true
  have s2 := starW_len e.Bottom false
  refine ⟨⟨⟨?_, fun _ _ => trivial⟩, ⟨?_, fun _ _ => trivial⟩⟩, ⟨⟨?_, fun _ _ => trivial⟩, ⟨?_, fun _ _ => trivial⟩⟩⟩
  ·show (starW e.Top true).length ≤ _; omega
  ·show (starW e.Bottom false).length ≤ _; omega
  ·show (starW e.Top true).length + 1 ≤ _; omega
  ·show (starW e.Bottom false).length ≤ _; omega
 simp only [plainL, List.mem_append, List.mem_singleton, List.mem_map] at hd
 rcases hd with (rfl | ⟨e, he, rfl⟩) | rfl
 ·exact (key _ (getD_len h 0)).2
 ·exact (key _ (domsB_mem h he)).1
 ·exact ⟨⟨by decide, fun _ _ => trivial⟩, ⟨by decide, fun _ _ => trivial⟩⟩
def stepD (a : List GDomino) (d : GDomino) : List GDomino := cond a.isEmpty [firstD d, starD d] (a ++ [starD d])
theorem foldl_stepD : ∀ (ds a : List GDomino), a ≠ [] → ds.foldl stepD a = a ++ ds.map starD
 | [], a, _ => by simp
 | d :: ds, a, h => by
  have e : stepD a d = a ++ [starD d] := by
   unfold stepD
   cases a with
   | nil => exact absurd rfl h
   | cons _ _ => rfl
  rw [List.foldl_cons, e, foldl_stepD ds _ (by simp)]
  simp
theorem impl_plain (ds : List GDomino) (hd : domsB ds = true) (hs : Sml ds) : F_impl_plainDominoes ds = some (plainP ds) := by
 have hl := domsB_len hd
 unfold F_impl_plainDominoes plainP
 obtain ⟨r1, r2⟩ := run_rowx (body := F_impl_plainDominoes_L1 ds) ds (by omega) (fun (a : List GDomino) i => (a, i)) stepD (fun d => leastB 7 d && nonE d) (.ret ([], 2)) (fun i a => (i = 0 ↔ a = []) ∧ a.length ≤ i + 1) (by
  rintro i hi a ⟨k0, k1⟩ hp
  have hm := domsB_mem hd (List.getElem_mem hi)
  simp only [Bool.and_eq_true] at hp
  obtain ⟨hp1, hp2⟩ := hp
  unfold nonE at hp2
  unfold leastB at hp1
  simp only [Bool.and_eq_true] at hp1 hp2
  have s1 := starW_len ds[i].Top true
  simp only [F_impl_plainDominoes_L1, Int.ofNat_lt, hi, decide_true, cond_true, idx_nat hi, bnd_some_eq, dec_zero, hp2.1, hp2.2, Bool.not_true, cond_false]
  rw [impl_joined [ds[i].Top, ds[i].Bottom] (by simp) (by simp; omega), bnd_some_eq, impl_allWithin _ _ _ (by simp; omega)]
  have ea : ([ds[i].Top, ds[i].Bottom].flatten.all fun x => inB x 0 7) = true := by
   simp only [List.flatten_cons, List.flatten_nil, List.append_nil, List.all_append, hp1.1, hp1.2, Bool.and_true]
  rw [ea]
  simp only [bnd_some_eq, Bool.not_true, cond_false, Out.elim]
  rw [impl_star _ _ (by omega), bnd_some_eq, impl_star _ _ (by omega)]
  simp only [bnd_some_eq]
  rw [impl_joined [[9], starW ds[i].Top true] (by simp) (by simp; omega)]
  simp only [bnd_some_eq]
  unfold stepD
  by_cases hi0 : i = 0
  ·obtain rfl := k0.1 hi0
   subst hi0
   refine ⟨?_, by simp⟩
   rw [decide_eq_false (by decide : ¬ (0 : Nat) ≠ 0), Bool.not_false, cond_true, app_ok (by simp), bnd_some_eq, app_ok (by simp), bnd_some_eq]
   simp [firstD, starD]
  ·have ha : a ≠ [] := fun e => hi0 (k0.2 e)
   have he : a.isEmpty = false := by cases a with
    | nil => exact absurd rfl ha
    | cons _ _ => rfl
   rw [he]
   refine ⟨?_, by simp, by simp; omega⟩
   rw [decide_eq_true (show i ≠ 0 from hi0), Bool.not_true, cond_false, app_ok (xs := a) (by simp; omega), bnd_some_eq]
   rfl) (by
  rintro i hi a - hp
  have hm := domsB_mem hd (List.getElem_mem hi)
  simp only [F_impl_plainDominoes_L1, Int.ofNat_lt, hi, decide_true, cond_true, idx_nat hi, bnd_some_eq, dec_zero]
  rw [impl_joined [ds[i].Top, ds[i].Bottom] (by simp) (by simp; omega), bnd_some_eq, impl_allWithin _ _ _ (by simp; omega)]
  have ea : ([ds[i].Top, ds[i].Bottom].flatten.all fun x => inB x 0 7) = leastB 7 ds[i] := by
   simp only [List.flatten_cons, List.flatten_nil, List.append_nil, List.all_append, leastB]
  rw [ea]
  unfold nonE at hp
  cases h1 : decide (ds[i].Top.length ≠ 0)
  ·rfl
  cases h2 : decide (ds[i].Bottom.length ≠ 0)
  ·rfl
  rw [h1, h2] at hp
  simp only [Bool.and_true] at hp
  rw [hp]
  rfl) [] ⟨by simp, by simp⟩
 rw [← all_and]
 cases hall : ds.all fun d => leastB 7 d && nonE d
 ·rw [r1 hall]
  rfl
 ·obtain ⟨d0, rest, rfl⟩ : ∃ d0 rest, ds = d0 :: rest := by
   cases ds with
   | nil => simp at hl
   | cons d0 rest => exact ⟨d0, rest, rfl⟩
  have e : (d0 :: rest).foldl stepD [] = [firstD d0] ++ (d0 :: rest).map starD := by
   rw [List.foldl_cons, foldl_stepD _ _ (by simp [stepD])]
   rfl
  rw [(r2 hall).1, e, run_done (x := .brk ([firstD d0] ++ (d0 :: rest).map starD, ((d0 :: rest).length : Int))) (by simp [F_impl_plainDominoes_L1])]
  simp only [bnd_some_eq, Out.elim, cond_true]
  simp only [List.length_cons] at hl
  rw [app_ok (by simp; omega), bnd_some_eq]
  have e2 : [firstD d0] ++ (d0 :: rest).map starD ++ [⟨[8], [9, 8]⟩] = plainL (d0 :: rest) := rfl
  rw [e2, impl_doms _ (plainL_sml hd), bnd_some_eq]
  cases domsB (plainL (d0 :: rest)) <;> rfl
end Go.Fn
namespace Go.Fn
open Go Go.Tc
def sideB (s : Int) (xs : List Int) : Bool := decide (xs.length ≤ 200) && (xs.all fun x => inB x 0 (s - 1)) && (decide (xs.length = 0) || decide (xs.getLastD 0 ≠ 0))
def confB (m : GMachine) (c : GConfig) : Bool := inB c.State 0 (m.States - 1) && (sideB m.Symbols c.Left && sideB m.Symbols c.Right)
theorem impl_side (xs : List Int) (s : Int) (hs : 0 ≤ s ∧ s ≤ 1000000) (h : xs.length ≤ 1048576) : F_impl_validSide xs s 200 = some (sideB s xs) := by
 unfold F_impl_validSide sideB F_impl_size_int64
 have e : w64 (s - 1) = s - 1 := w64_in (by omega) (by omega)
 rw [bnd_some_eq, e, impl_allWithin xs 0 (s - 1) h]
 by_cases hl : xs.length ≤ 200
 ·rw [decide_eq_true (by omega : (xs.length : Int) ≤ 200), decide_eq_true hl]
  cases xs.all fun x => inB x 0 (s - 1)
  ·rfl
  ·simp only [cond_true, bnd_some_eq, Bool.true_and]
   by_cases h0 : xs.length = 0
   ·rw [decide_eq_true (by omega : (xs.length : Int) = 0), decide_eq_true h0]; rfl
   ·rw [decide_eq_false (by omega : ¬ (xs.length : Int) = 0), decide_eq_false h0, idx_last h0 h]; rfl
 ·rw [decide_eq_false (by omega : ¬ (xs.length : Int) ≤ 200), decide_eq_false hl]; rfl
theorem impl_confOf (m : GMachine) (c : GConfig) (hs : 0 ≤ m.Symbols ∧ m.Symbols ≤ 1000000) (hq : 0 ≤ m.States ∧ m.States ≤ 1000000) (h : Sml c) : F_impl_configOf m c = some (confB m c) := by
 unfold F_impl_configOf confB
 rw [w64_in (by omega) (by omega), impl_in, bnd_some_eq, impl_side c.Left _ hs h.1.1, impl_side c.Right _ hs h.2.1]
 cases inB c.State 0 (m.States - 1)
 ·rfl
 ·cases sideB m.Symbols c.Left <;> rfl
theorem machB_in {m : GMachine} (h : machB m = true) : (0 ≤ m.Symbols ∧ m.Symbols ≤ 1000000) ∧ (0 ≤ m.States ∧ m.States ≤ 1000000) := by
 obtain ⟨s, q, hs, hq, b1, b2, b3, b4, _⟩ := machB_nat h
 omega
theorem impl_confV (m : GMachine) (c : GConfig) (s0 : Sml m) (s1 : Sml c) : F_impl_ValidConfig m c = some (machB m && confB m c) := by
 unfold F_impl_ValidConfig
 rw [impl_mach m s0, bnd_some_eq]
 cases hm : machB m
 ·rfl
 ·obtain ⟨h1, h2⟩ := machB_in hm
  rw [cond_true, impl_confOf m c h1 h2 s1]
  rfl
theorem confB_len {m : GMachine} {c : GConfig} (h : confB m c = true) : c.Left.length ≤ 200 ∧ c.Right.length ≤ 200 ∧ 0 ≤ c.State ∧ c.State ≤ m.States - 1 := by
 unfold confB sideB at h
 simp only [Bool.and_eq_true, decide_eq_true_eq] at h
 have := inB_iff.1 h.1
 exact ⟨h.2.1.1.1, h.2.2.1.1, this.1, this.2⟩
def rowC (c : GConfig) (W A : Nat) : List Int := (List.range W).map fun i => if i < A then c.Left.getD (A - 1 - i) 0 else c.Right.getD (i - A) 0
end Go.Fn
namespace Go.Fn
open Go Go.Tc
def rewB (r : GRewrite) : Bool := wordB r.From && wordB r.To && decide (r.From.length ≠ 0)
def rewsB (rs : List GRewrite) : Bool := decide (1 ≤ rs.length) && decide (rs.length ≤ 60) && rs.all rewB
theorem spec_rews (rs : List GRewrite) (h : Sml rs) : F_spec_l10Is rs = some (rewsB rs) := by
 have h1 := h.1
 unfold F_spec_l10Is rewsB
 rw [dec_lt (x := (rs.length : Int)) (y := 1) rfl rfl, dec_lt (x := 60) (y := (rs.length : Int)) rfl rfl]
 by_cases l1 : rs.length < 1
 ·rw [decide_eq_true l1, decide_eq_false (by omega : ¬ 1 ≤ rs.length)]; rfl
 by_cases l2 : 60 < rs.length
 ·rw [decide_eq_false l1, decide_eq_true l2, decide_eq_false (by omega : ¬ rs.length ≤ 60), Bool.and_false]; rfl
 rw [decide_eq_false l1, decide_eq_false l2, decide_eq_true (by omega : rs.length ≤ 60), decide_eq_true (by omega : 1 ≤ rs.length)]
 simp only [cond_false, bnd_some_eq, Out.elim, Bool.true_and]
 rw [run_allp rs (by omega) rewB (.ret false) (.brk (rs.length : Int)) (fun i hi => by
  have hd := h.mem hi
  have e1 := hd.1.1
  have e2 := hd.2.1
  simp only [F_spec_l10Is_L1, Int.ofNat_lt, hi, decide_true, cond_true, idx_nat hi, bnd_some_eq, spec_word _ e1, spec_word _ e2, dec_zero]
  unfold rewB
  cases wordB rs[i].From
  ·rfl
  cases wordB rs[i].To
  ·rfl
  cases decide (rs[i].From.length ≠ 0) <;> rfl) (by simp [F_spec_l10Is_L1])]
 cases rs.all rewB <;> rfl
theorem two_words (a b : List Int) (ha : Sml a) (hb : Sml b) : F_impl_areWords [a, b] = some (wordB a && wordB b) := by
 rw [impl_areWords [a, b] ⟨by simp, by simp only [List.mem_cons, List.not_mem_nil, or_false]; exact fun x hx => hx.elim (fun e => e ▸ ha) (fun e => e ▸ hb)⟩]
 simp
theorem impl_rews (rs : List GRewrite) (h : Sml rs) : F_impl_ValidRewrites rs = some (rewsB rs) := by
 have h1 := h.1
 unfold F_impl_ValidRewrites F_impl_size_impl_Rewrite F_slices_ContainsFunc_Simpl_Rewrite_impl_Rewrite F_slices_IndexFunc_Simpl_Rewrite_impl_Rewrite rewsB
 simp only [bnd_some_eq, impl_in]
 rw [run_find rs (by omega) (fun x => !rewB x) (fun i hi => by
  have hd := h.mem hi
  simp only [F_slices_IndexFunc_Simpl_Rewrite_impl_Rewrite_L1, F_impl_ValidRewrites_1, Int.ofNat_lt, hi, decide_true, cond_true, idx_nat hi, bnd_some_eq, two_words _ _ hd.1 hd.2, dec_zero]
  unfold rewB
  cases wordB rs[i].From && wordB rs[i].To
  ·rfl
  cases decide (rs[i].From.length ≠ 0) <;> rfl) (by simp [F_slices_IndexFunc_Simpl_Rewrite_impl_Rewrite_L1])]
 simp only [bnd_some_eq]
 rw [find_any, any_not]
 have : inB (rs.length : Int) 1 60 = (decide (1 ≤ rs.length) && decide (rs.length ≤ 60)) := by
  unfold inB
  rw [dec_le (x := 1) (y := (rs.length : Int)) rfl rfl, dec_le (x := (rs.length : Int)) (y := 60) rfl rfl]
 rw [this]
 cases decide (1 ≤ rs.length) && decide (rs.length ≤ 60) <;> rfl
theorem rewsB_len {rs : List GRewrite} (h : rewsB rs = true) : 1 ≤ rs.length ∧ rs.length ≤ 60 := by
 unfold rewsB at h
 simp only [Bool.and_eq_true, decide_eq_true_eq] at h
 exact h.1
theorem rewsB_mem {rs : List GRewrite} (h : rewsB rs = true) {r : GRewrite} (hr : r ∈ rs) : r.From.length ≤ 400 ∧ r.To.length ≤ 400 := by
 unfold rewsB at h
 simp only [Bool.and_eq_true, decide_eq_true_eq] at h
 have := List.all_eq_true.1 h.2 r hr
 unfold rewB wordB at this
 simp only [Bool.and_eq_true, decide_eq_true_eq] at this
 exact ⟨this.1.1.1, this.1.2.1⟩
theorem wordB_len {w : List Int} (h : wordB w = true) : w.length ≤ 400 := by
 unfold wordB at h
 simp only [Bool.and_eq_true, decide_eq_true_eq] at h
 exact h.1
def toD (r : GRewrite) : GDomino := ⟨r.From, r.To⟩
def letD (k : Nat) : GDomino := ⟨[(k : Int)], [(k : Int)]⟩
def headL (f : List Int) : List GDomino := [⟨[6], 6 :: (f ++ [6])⟩] ++ (List.range 6).map letD ++ [⟨[6], [6]⟩]
theorem headL_len (f : List Int) : (headL f).length = 8 := by simp [headL]
def rulesL (rs : List GRewrite) (f t : List Int) : List GDomino := headL f ++ rs.map toD ++ [⟨t ++ [6, 7], [7]⟩]
def smallB (xs : List Int) : Bool := xs.all fun x => inB x 0 5
def rulesP (rs : List GRewrite) (f t : List Int) : List GDomino × Int :=
 cond ((smallB f && smallB t) && rs.all fun r => leastB 5 (toD r)) (cond (domsB (rulesL rs f t)) (rulesL rs f t, 0) ([], 5)) ([], 2)
theorem rulesL_sml {rs : List GRewrite} {f t : List Int} (h : rewsB rs = true) (hf : f.length ≤ 400) (ht : t.length ≤ 400) : Sml (rulesL rs f t) := by
 have hl := rewsB_len h
 refine ⟨by simp only [rulesL, List.length_append, headL_len, List.length_map, List.length_singleton]; omega, fun d hd => ?_⟩
 have key : ∀ a b : List Int, a.length ≤ 1000 → b.length ≤ 1000 → Bdd.bd 1048576 (⟨a, b⟩ : GDomino) := fun a b ha hb =>
  ⟨⟨Nat.le_trans ha (by decide), fun _ _ => trivial⟩, ⟨Nat.le_trans hb (by decide), fun _ _ => trivial⟩⟩
 simp only [rulesL, headL, List.mem_append, List.mem_singleton, List.mem_map] at hd
 rcases hd with (((rfl | ⟨k, _, rfl⟩) | rfl) | ⟨r, hr, rfl⟩) | rfl
 ·exact key _ _ (by simp) (by simp; omega)
 ·exact key _ _ (by simp) (by simp)
 ·exact key _ _ (by simp) (by simp)
 ·have := rewsB_mem h hr
  exact key _ _ (by omega) (by omega)
 ·exact key _ _ (by simp; omega) (by simp)
theorem run_letters {R : Type} {body : List GDomino × Int → Option ((List GDomino × Int) ⊕ Out (List GDomino × Int) R)} (a : List GDomino) (ha : a.length ≤ 10)
  (h1 : ∀ (i : Nat) (b : List GDomino), i < 6 → b.length ≤ 20 → body (b, (i : Int)) = some (.inl (b ++ [letD i], w64 ((i : Int) + 1))))
  (h2 : ∀ b, body (b, 6) = some (.inr (.brk (b, 6)))) : run body (a, 0) = some (.brk (a ++ (List.range 6).map letD, 6)) := by
 have := (run_rowf (body := body) (List.range 6) (by simp) (fun (a : List GDomino) i => (a, i)) (fun a k => a ++ [letD k]) (fun i b => b.length ≤ 10 + i) (by
  intro i hi b k
  simp only [List.length_range] at hi
  simp only [List.getElem_range]
  exact ⟨h1 i b hi (by omega), by simp; omega⟩) a (by omega)).1
 rw [foldl_snoc, List.length_range] at this
 rw [this]
 exact run_done (h2 _)
theorem spec_own (xs : List Int) (h : xs.length ≤ 1048576) : F_spec_l00Own xs = some xs := by
 unfold F_spec_l00Own
 rw [app_ok (by simp; omega)]
 rfl
theorem impl_clone (xs : List Int) (h : xs.length ≤ 1048576) : F_slices_Clone_Sint64_int64 xs = some xs := by
 unfold F_slices_Clone_Sint64_int64
 rw [app_ok (by simp; omega)]
 rfl
theorem spec_rules (rs : List GRewrite) (f t : List Int) (h : rewsB rs = true) (hs : Sml rs) (hf : f.length ≤ 400) (ht : t.length ≤ 400) : F_spec_l32Rules rs f t = some (rulesP rs f t) := by
 have hl := rewsB_len h
 unfold F_spec_l32Rules
 rw [app_ok (by simp; omega), bnd_some_eq, app_ok (by simp; omega), bnd_some_eq]
 rw [run_letters (body := F_spec_l32Rules_L1) _ (by simp) (fun i b hi hb => by
  simp only [F_spec_l32Rules_L1]
  rw [decide_eq_true (by omega : (i : Int) ≤ 5), cond_true, app_ok (by simp; omega), bnd_some_eq]
  rfl) (fun b => by simp [F_spec_l32Rules_L1])]
 simp only [bnd_some_eq, Out.elim]
 rw [app_ok (by simp), bnd_some_eq]
 have eh : [(⟨[6], [6] ++ f ++ [6]⟩ : GDomino)] ++ (List.range 6).map letD ++ [⟨[6], [6]⟩] = headL f := rfl
 rw [eh]
 have r := (run_rowf (body := F_spec_l32Rules_L2 rs) rs (by omega) (fun (a : List GDomino) i => (a, i)) (fun a r => a ++ [toD r]) (fun i b => b.length ≤ 8 + i) (by
  intro i hi b k
  have hm := rewsB_mem h (List.getElem_mem hi)
  refine ⟨?_, by simp; omega⟩
  simp only [F_spec_l32Rules_L2, Int.ofNat_lt, hi, decide_true, cond_true, idx_nat hi, bnd_some_eq]
  rw [spec_own _ (by omega), bnd_some_eq, spec_own _ (by omega), bnd_some_eq, app_ok (by simp; omega), bnd_some_eq]
  rfl) (headL f) (by rw [headL_len]; omega)).1
 rw [foldl_snoc] at r
 rw [r, run_done (x := .brk (headL f ++ rs.map toD, (rs.length : Int))) (by simp [F_spec_l32Rules_L2])]
 simp only [bnd_some_eq, Out.elim]
 have sl : slc (headL f ++ rs.map toD) 8 (((headL f ++ rs.map toD).length : Nat) : Int) = some (rs.map toD) := by
  have := slc_ok (xs := headL f ++ rs.map toD) (lo := 8) (hi := (headL f ++ rs.map toD).length) (by rw [List.length_append, headL_len]; omega) (Nat.le_refl _)
  rw [List.take_length, List.drop_append_of_le_length (by rw [headL_len]; omega), List.drop_eq_nil_of_le (by rw [headL_len]; omega)] at this
  exact this
 have hsm : Sml (rs.map toD) := ⟨by rw [List.length_map]; exact hs.1, fun d hd => by
  obtain ⟨r, hr, rfl⟩ := List.mem_map.1 hd
  exact hs.2 r hr⟩
 rw [sl, bnd_some_eq, spec_least _ _ hsm, spec_row f _ _ (by omega), spec_row t _ _ (by omega), List.all_map]
 unfold rulesP smallB
 have ec : (rs.all (leastB 5 ∘ toD)) = rs.all fun r => leastB 5 (toD r) := rfl
 rw [ec]
 cases rs.all fun r => leastB 5 (toD r)
 ·simp only [Bool.and_false]; rfl
 cases f.all fun x => inB x 0 5
 ·rfl
 cases t.all fun x => inB x 0 5
 ·rfl
 simp only [Bool.not_true, cond_false, bnd_some_eq, Out.elim, Bool.and_self, cond_true]
 rw [spec_own t (by omega), bnd_some_eq, app_ok (by simp; omega), bnd_some_eq, app_ok (by rw [List.length_append, headL_len, List.length_map]; simp; omega), bnd_some_eq]
 have ed : headL f ++ rs.map toD ++ [⟨t ++ [6, 7], [7]⟩] = rulesL rs f t := rfl
 rw [ed, spec_doms _ (rulesL_sml h hf ht), bnd_some_eq]
 cases domsB (rulesL rs f t) <;> rfl
theorem foldl_fine (q : GRewrite → Bool) : ∀ (rs : List GRewrite) (a : List GDomino) (b : Bool), rs.foldl (fun s r => (s.1 ++ [toD r], s.2 && q r)) (a, b) = (a ++ rs.map toD, b && rs.all q)
 | [], a, b => by simp
 | r :: rs, a, b => by rw [List.foldl_cons, foldl_fine q rs]; simp [Bool.and_assoc]
theorem impl_rules (rs : List GRewrite) (f t : List Int) (h : rewsB rs = true) (hs : Sml rs) (hf : f.length ≤ 400) (ht : t.length ≤ 400) : F_impl_rewritesToDominoes rs f t = some (rulesP rs f t) := by
 have hl := rewsB_len h
 unfold F_impl_rewritesToDominoes
 rw [impl_joined _ (by simp) (by simp; omega), bnd_some_eq]
 rw [run_letters (body := F_impl_rewritesToDominoes_L1) _ (by simp) (fun i b hi hb => by
  simp only [F_impl_rewritesToDominoes_L1]
  rw [decide_eq_true (by omega : (i : Int) < 6), cond_true, app_ok (by simp; omega), bnd_some_eq]
  rfl) (fun b => by simp [F_impl_rewritesToDominoes_L1])]
 simp only [bnd_some_eq, Out.elim]
 rw [impl_clone [6] (by simp), bnd_some_eq, bnd_some_eq, app_ok (by simp), bnd_some_eq, impl_joined [f, t] (by simp) (by simp; omega), bnd_some_eq, impl_allWithin _ _ _ (by simp; omega), bnd_some_eq]
 have eh : [(⟨[6], [[6], f, [6]].flatten⟩ : GDomino)] ++ (List.range 6).map letD ++ [⟨[6], [6]⟩] = headL f := by simp [headL]
 rw [eh]
 have ea : ([f, t].flatten.all fun x => inB x 0 5) = (smallB f && smallB t) := by simp [smallB]
 rw [ea]
 have r := (run_rowf (body := F_impl_rewritesToDominoes_L2 rs) rs (by omega) (fun (a : List GDomino × Bool) i => (a.1, a.2, i)) (fun a r => (a.1 ++ [toD r], a.2 && leastB 5 (toD r))) (fun i b => b.1.length ≤ 8 + i) (by
  rintro i hi ⟨b, c⟩ k
  have k : b.length ≤ 8 + i := k
  have hm := rewsB_mem h (List.getElem_mem hi)
  refine ⟨?_, by simp; omega⟩
  simp only [F_impl_rewritesToDominoes_L2, Int.ofNat_lt, hi, decide_true, cond_true, idx_nat hi, bnd_some_eq]
  rw [impl_joined [rs[i].From, rs[i].To] (by simp) (by simp; omega), bnd_some_eq, impl_allWithin _ _ _ (by simp; omega), bnd_some_eq, impl_clone rs[i].From (by omega), bnd_some_eq, impl_clone rs[i].To (by omega), bnd_some_eq, app_ok (by simp; omega)]
  have eb : ([rs[i].From, rs[i].To].flatten.all fun x => inB x 0 5) = leastB 5 (toD rs[i]) := by simp [leastB, toD]
  rw [eb]
  simp only [bnd_some_eq]
  rw [app_ok (by simp; omega)]
  cases c <;> rfl) (headL f, smallB f && smallB t) (by show (headL f).length ≤ _; rw [headL_len]; omega)).1
 rw [foldl_fine] at r
 rw [r, run_done (x := .brk (headL f ++ rs.map toD, ((smallB f && smallB t) && rs.all fun r => leastB 5 (toD r)), (rs.length : Int))) (by simp [F_impl_rewritesToDominoes_L2])]
 simp only [bnd_some_eq, Out.elim]
 rw [impl_joined [t, [6, 7]] (by simp) (by simp; omega), bnd_some_eq, app_ok (by rw [List.length_append, headL_len, List.length_map]; simp; omega), bnd_some_eq]
 have ed : headL f ++ rs.map toD ++ [⟨[t, [6, 7]].flatten, [7]⟩] = rulesL rs f t := by simp [rulesL]
 rw [ed, impl_doms _ (rulesL_sml h hf ht)]
 unfold rulesP
 cases (smallB f && smallB t) && rs.all fun r => leastB 5 (toD r)
 ·rfl
 cases domsB (rulesL rs f t) <;> rfl
end Go.Fn
namespace Go.Fn
open Go Go.Tc
theorem nz_ok {b : Int} (h : b ≠ 0) : nz b = some () := by unfold nz; rw [if_neg h]
def haltW (m : GMachine) (c : GConfig) : List Int := [m.Symbols + m.States] ++ c.Left.reverse ++ [w64 (m.Symbols + c.State)] ++ c.Right ++ [m.Symbols + m.States]
theorem haltW_len (m : GMachine) (c : GConfig) : (haltW m c).length = c.Left.length + c.Right.length + 3 := by simp [haltW]; omega
def haltT (m : GMachine) : List Int := [m.Symbols + m.States, m.Symbols + m.States + 1, m.Symbols + m.States]
def haltWP (m : GMachine) (c : GConfig) : List Int × List Int × Int :=
 cond (decide (5 < m.Symbols + m.States + 1)) ([], [], 5) (cond (decide (400 < (haltW m c).length)) ([], [], 5) (haltW m c, haltT m, 0))
theorem border_in {m : GMachine} (h : machB m = true) : w64 (m.Symbols + m.States) = m.Symbols + m.States ∧ w64 (m.Symbols + m.States + 1) = m.Symbols + m.States + 1 ∧ 0 ≤ m.Symbols + m.States := by
 obtain ⟨s, q, hs, hq, b1, b2, b3, b4, _⟩ := machB_nat h
 refine ⟨w64_in (by omega) (by omega), w64_in (by omega) (by omega), by omega⟩
theorem impl_eraser (m : GMachine) (h : machB m = true) : F_impl_eraserOf m = some (cond (decide (5 < m.Symbols + m.States + 1)) (⟨0, 0⟩, 0, 5) (⟨m.Symbols, m.Symbols + m.States⟩, m.Symbols + m.States + 1, 0)) := by
 obtain ⟨e1, e2, _⟩ := border_in h
 unfold F_impl_eraserOf F_impl_alphabetOf
 rw [e1]
 by_cases h9 : 9 < m.Symbols + m.States
 ·rw [decide_eq_true h9, decide_eq_true (by omega)]; rfl
 ·rw [decide_eq_false h9]
  simp only [cond_false, bnd_some_eq, e2]
  cases decide (5 < m.Symbols + m.States + 1) <;> rfl
theorem impl_haltW (m : GMachine) (c : GConfig) (h : machB m = true) (h1 : c.Left.length ≤ 200) (h2 : c.Right.length ≤ 200) : F_impl_haltWords m c = some (haltWP m c) := by
 unfold F_impl_haltWords haltWP F_impl_alphabet_wordOfConfig
 rw [impl_eraser m h, bnd_some_eq]
 cases decide (5 < m.Symbols + m.States + 1)
 ·simp only [cond_false]
  rw [impl_reversed _ (by omega)]
  simp only [bnd_some_eq]
  rw [impl_joined _ (by simp) (by simp; omega), bnd_some_eq]
  have e : ([[m.Symbols + m.States], c.Left.reverse, [w64 (m.Symbols + c.State)], c.Right, [m.Symbols + m.States]] : List (List Int)).flatten = haltW m c := by simp [haltW]
  rw [e]
  unfold F_impl_fitting
  simp only [bnd_some_eq]
  rw [show decide ((400 : Int) < ((haltW m c).length : Int)) = decide (400 < (haltW m c).length) by rw [decide_eq_decide]; omega]
  cases decide (400 < (haltW m c).length) <;> rfl
 ·rfl
def rwOf (s : Nat) (S b k : Int) (r : GRule) : List GRewrite :=
 cond (decide (r.Move = 1)) ([⟨[w64 (S + w64 (Int.tdiv k S)), Int.tmod k S], [r.Write, w64 (S + r.Next)]⟩] ++ cond (decide (Int.tmod k S = 0)) [⟨[w64 (S + w64 (Int.tdiv k S)), b], [r.Write, w64 (S + r.Next), b]⟩] [])
  (((List.range s).flatMap fun (c : Nat) => [(⟨[(c : Int), w64 (S + w64 (Int.tdiv k S)), Int.tmod k S], [w64 (S + r.Next), (c : Int), r.Write]⟩ : GRewrite)]) ++ [⟨[b, w64 (S + w64 (Int.tdiv k S)), Int.tmod k S], [b, w64 (S + r.Next), 0, r.Write]⟩] ++
   cond (decide (Int.tmod k S = 0)) (((List.range s).flatMap fun (c : Nat) => [(⟨[(c : Int), w64 (S + w64 (Int.tdiv k S)), b], [w64 (S + r.Next), (c : Int), r.Write, b]⟩ : GRewrite)]) ++ [⟨[b, w64 (S + w64 (Int.tdiv k S)), b], [b, w64 (S + r.Next), 0, r.Write, b]⟩]) [])
theorem flat1_len {β : Type} (f : Nat → β) (s : Nat) : ((List.range s).flatMap fun c => [f c]).length = s := by
 rw [← List.map_eq_flatMap]; simp
theorem rwOf_len (s : Nat) (S b k : Int) (r : GRule) : (rwOf s S b k r).length ≤ 2 * s + 2 := by
 unfold rwOf
 cases decide (r.Move = 1)
 ·cases decide (Int.tmod k S = 0)
  ·simp only [cond_false, List.length_append, flat1_len, List.length_singleton, List.length_nil]; omega
  ·simp only [cond_false, cond_true, List.length_append, flat1_len, List.length_singleton]; omega
 ·cases decide (Int.tmod k S = 0)
  ·simp only [cond_false, cond_true, List.length_append, List.length_singleton, List.length_nil]; omega
  ·simp only [cond_true, List.length_append, List.length_singleton]; omega
def ownRw (m : GMachine) (s : Nat) (i : Nat) : List GRewrite := cond (decide (m.Rules.getD i noR = noR)) [] (rwOf s m.Symbols (m.Symbols + m.States) (i : Int) (m.Rules.getD i noR))
theorem ownRw_len (m : GMachine) (s i : Nat) : (ownRw m s i).length ≤ 2 * s + 2 := by
 unfold ownRw
 cases decide (m.Rules.getD i noR = noR)
 ·exact rwOf_len _ _ _ _ _
 ·exact Nat.zero_le _
def freeRw (m : GMachine) (i : Nat) : List GRewrite :=
 [⟨[w64 (m.Symbols + w64 (Int.tdiv (i : Int) m.Symbols)), Int.tmod (i : Int) m.Symbols], [m.Symbols + m.States + 1]⟩] ++ cond (decide (Int.tmod (i : Int) m.Symbols = 0)) [⟨[w64 (m.Symbols + w64 (Int.tdiv (i : Int) m.Symbols)), m.Symbols + m.States], [m.Symbols + m.States + 1, m.Symbols + m.States]⟩] []
theorem freeRw_len (m : GMachine) (i : Nat) : (freeRw m i).length ≤ 2 := by
 unfold freeRw
 cases decide (Int.tmod (i : Int) m.Symbols = 0) <;> simp
def eraseRw (m : GMachine) (c : Nat) : List GRewrite := [⟨[m.Symbols + m.States + 1, (c : Int)], [m.Symbols + m.States + 1]⟩, ⟨[(c : Int), m.Symbols + m.States + 1], [m.Symbols + m.States + 1]⟩]
def isNo (m : GMachine) (i : Nat) : Bool := decide (m.Rules.getD i noR = noR)
def ownL (m : GMachine) (s : Nat) : List GRewrite := (List.range m.Rules.length).flatMap (ownRw m s)
def haltL (m : GMachine) (s : Nat) : List GRewrite := ownL m s ++ ((List.range m.Rules.length).flatMap fun i => cond (isNo m i) (freeRw m i) []) ++ (List.range s).flatMap (eraseRw m)
theorem idx_rule {m : GMachine} {i : Nat} (h : i < m.Rules.length) : idx m.Rules (i : Int) = some (m.Rules.getD i noR) := by
 rw [idx_nat h, List.getD_eq_getElem?_getD, List.getElem?_eq_getElem h]; rfl
theorem own_len (m : GMachine) (s : Nat) (h1 : m.Rules.length ≤ 6000) (h2 : s ≤ 6) : (ownL m s).length ≤ 84000 := by
 have := flatMap_length_le (ownRw m s) (n := 14) (List.range m.Rules.length) (fun i _ => Nat.le_trans (ownRw_len m s i) (by omega))
 rw [List.length_range] at this
 unfold ownL
 omega
theorem run_syms {R : Type} {body : List GRewrite × Int → Option ((List GRewrite × Int) ⊕ Out (List GRewrite × Int) R)} (s : Nat) (hs : s ≤ 6) (g : Nat → List GRewrite) (hg : ∀ k, k < s → (g k).length ≤ 2) (a : List GRewrite) (ha : a.length ≤ 1048576)
  (h1 : ∀ (i : Nat) (b : List GRewrite), i < s → b.length ≤ 1048576 + i * 2 → body (b, (i : Int)) = some (.inl (b ++ g i, w64 ((i : Int) + 1)))) (h2 : ∀ b, body (b, (s : Int)) = some (.inr (.brk (b, (s : Int))))) :
  run body (a, 0) = some (.brk (a ++ (List.range s).flatMap g, (s : Int))) := by
 rw [run_rangeL (body := body) s (by omega) (fun a i => (a, i)) g 2 hg a 1048576 ha h1]
 exact run_done (h2 _)
theorem impl_rwOf (m : GMachine) {s : Nat} (hs : m.Symbols = s) (b2 : s ≤ 6) (b k : Int) (r : GRule) : F_impl_alphabet_rewritesOf ⟨m.Symbols, b⟩ m (w64 (Int.tdiv k m.Symbols)) (Int.tmod k m.Symbols) r = some (rwOf s m.Symbols b k r) := by
 unfold F_impl_alphabet_rewritesOf rwOf
 cases decide (r.Move = 1)
 ·rw [cond_false, cond_false, run_syms (body := F_impl_alphabet_rewritesOf_L1 _ _ _ _ _) s b2 (fun (c : Nat) => [(⟨[(c : Int), w64 (m.Symbols + w64 (Int.tdiv k m.Symbols)), Int.tmod k m.Symbols], [w64 (m.Symbols + r.Next), (c : Int), r.Write]⟩ : GRewrite)]) (by simp) [] (by simp) (fun i a hi ha => by
   simp only [F_impl_alphabet_rewritesOf_L1]
   rw [decide_eq_true (by omega), cond_true, app_ok (by simp; omega), bnd_some_eq]) (fun a => by
   simp only [F_impl_alphabet_rewritesOf_L1]
   rw [decide_eq_false (by omega)]; rfl)]
  simp only [bnd_some_eq, Out.elim, List.nil_append]
  rw [app_ok (by rw [flat1_len]; simp; omega), bnd_some_eq]
  cases decide (Int.tmod k m.Symbols = 0)
  ·simp
  ·rw [cond_true, cond_true, run_syms (body := F_impl_alphabet_rewritesOf_L2 _ _ _ _) s b2 (fun (c : Nat) => [(⟨[(c : Int), w64 (m.Symbols + w64 (Int.tdiv k m.Symbols)), b], [w64 (m.Symbols + r.Next), (c : Int), r.Write, b]⟩ : GRewrite)]) (by simp) _ (by rw [List.length_append, flat1_len]; simp; omega) (fun i a hi ha => by
    simp only [F_impl_alphabet_rewritesOf_L2]
    rw [decide_eq_true (by omega), cond_true, app_ok (by simp; omega), bnd_some_eq]) (fun a => by
    simp only [F_impl_alphabet_rewritesOf_L2]
    rw [decide_eq_false (by omega)]; rfl)]
   simp only [bnd_some_eq, Out.elim]
   rw [app_ok (by simp only [List.length_append, flat1_len, List.length_singleton]; omega), bnd_some_eq]
   simp
 ·simp only [cond_true]
  rw [app_ok (by simp), bnd_some_eq]
  cases decide (Int.tmod k m.Symbols = 0)
  ·rfl
  ·rw [cond_true, app_ok (by simp)]
   rfl
theorem impl_own (m : GMachine) {s q : Nat} (hs : m.Symbols = s) (hq : m.States = q) (b1 : 2 ≤ s) (b2 : s ≤ 6) (hl : m.Rules.length ≤ 6000) : F_impl_alphabet_machineRewrites ⟨m.Symbols, m.Symbols + m.States⟩ m = some (ownL m s) := by
 unfold F_impl_alphabet_machineRewrites
 have hS : m.Symbols ≠ 0 := by omega
 rw [run_rangeL (body := F_impl_alphabet_machineRewrites_L1 ⟨m.Symbols, m.Symbols + m.States⟩ m) m.Rules.length (by omega) (fun a i => (a, i)) (ownRw m s) 14 (fun i _ => Nat.le_trans (ownRw_len m s i) (by omega)) [] 0 (by simp) (fun i a hi ha => by
  simp only [F_impl_alphabet_machineRewrites_L1, Int.ofNat_lt, hi, decide_true, cond_true, idx_rule hi, bnd_some_eq, F_impl_isRule, F_impl_noRule, nz_ok hS]
  have hr := ownRw_len m s i
  unfold ownRw at hr ⊢
  show cond (!decide (m.Rules.getD i noR = noR)) _ _ = _
  cases hd : decide (m.Rules.getD i noR = noR)
  ·rw [hd] at hr
   rw [impl_rwOf m hs b2]
   simp only [Bool.not_false, cond_true, cond_false, bnd_some_eq] at hr ⊢
   rw [app_ok (by omega), bnd_some_eq]
  ·simp)]
 rw [run_done (x := Out.brk ([] ++ (List.range m.Rules.length).flatMap (ownRw m s), (m.Rules.length : Int))) (by simp [F_impl_alphabet_machineRewrites_L1])]
 rfl
theorem filter_flat {β : Type} (p : Nat → Bool) (f : Nat → List β) : ∀ xs : List Nat, (xs.filter p).flatMap f = xs.flatMap fun i => cond (p i) (f i) []
 | [] => rfl
 | x :: xs => by
  rw [List.filter_cons, List.flatMap_cons, ← filter_flat p f xs]
  cases p x <;> simp
def freeI (m : GMachine) : List Int := ((List.range m.Rules.length).filter (isNo m)).map fun (i : Nat) => (i : Int)
theorem impl_free (m : GMachine) (hl : m.Rules.length ≤ 6000) : F_impl_freeRules m = some (freeI m) := by
 unfold F_impl_freeRules
 rw [run_rangeL (body := F_impl_freeRules_L1 m) m.Rules.length (by omega) (fun a i => (a, i)) (fun i => cond (isNo m i) [(i : Int)] []) 1 (fun i _ => by cases isNo m i <;> simp) [] 0 (by simp) (fun i a hi ha => by
  simp only [F_impl_freeRules_L1, Int.ofNat_lt, hi, decide_true, cond_true, idx_rule hi, bnd_some_eq, F_impl_isRule, F_impl_noRule]
  show cond (!!decide (m.Rules.getD i noR = noR)) _ _ = _
  unfold isNo
  cases decide (m.Rules.getD i noR = noR)
  ·simp
  ·simp only [Bool.not_true, Bool.not_false, cond_true]
   rw [app_ok (by simp; omega), bnd_some_eq])]
 rw [run_done (x := Out.brk ([] ++ (List.range m.Rules.length).flatMap (fun i => cond (isNo m i) [(i : Int)] []), (m.Rules.length : Int))) (by simp [F_impl_freeRules_L1])]
 simp only [bnd_some_eq, Out.elim, List.nil_append]
 rw [← filter_flat (isNo m) (fun i => [(i : Int)]), ← List.map_eq_flatMap]
 rfl
theorem free_len (m : GMachine) (hl : m.Rules.length ≤ 6000) : (freeI m).length ≤ 6000 := by
 unfold freeI
 rw [List.length_map]
 have := List.length_filter_le (isNo m) (List.range m.Rules.length)
 rw [List.length_range] at this
 omega
theorem map_flat {β : Type} (f : Nat → List β) (g : Int → List β) (h : ∀ i : Nat, g (i : Int) = f i) : ∀ xs : List Nat, (xs.map fun (i : Nat) => (i : Int)).flatMap g = xs.flatMap f
 | [] => rfl
 | x :: xs => by rw [List.map_cons, List.flatMap_cons, List.flatMap_cons, h, map_flat f g h xs]
theorem free_flat_len (m : GMachine) (hl : m.Rules.length ≤ 6000) : ((List.range m.Rules.length).flatMap fun i => cond (isNo m i) (freeRw m i) []).length ≤ 12000 := by
 have := flatMap_length_le (fun i => cond (isNo m i) (freeRw m i) []) (n := 2) (List.range m.Rules.length) (fun i _ => by
  cases isNo m i
  ·exact Nat.zero_le _
  ·exact freeRw_len m i)
 rw [List.length_range] at this
 omega
theorem impl_halt (m : GMachine) (h : machB m = true) {s q : Nat} (hs : m.Symbols = s) (hq : m.States = q) (b1 : 2 ≤ s) (b2 : s ≤ 6) (hl : m.Rules.length ≤ 6000) :
  F_impl_haltRewrites m = some (cond (decide (5 < m.Symbols + m.States + 1)) ([], 0, 5) (cond (decide (60 < (haltL m s).length)) ([], 0, 5) (haltL m s, ((ownL m s).length : Int), 0))) := by
 have hS : m.Symbols ≠ 0 := by omega
 unfold F_impl_haltRewrites
 rw [impl_eraser m h, bnd_some_eq]
 cases decide (5 < m.Symbols + m.States + 1)
 ·simp only [cond_false]
  have ho := own_len m s hl b2
  have hf := free_len m hl
  have hff := free_flat_len m hl
  rw [impl_own m hs hq b1 b2 hl, impl_free m hl]
  simp only [bnd_some_eq]
  have hrun := (run_rowf (body := F_impl_haltRewrites_L1 m (⟨m.Symbols, m.Symbols + m.States⟩, m.Symbols + m.States + 1, 0) (freeI m)) (freeI m) (by omega) (fun (a : List GRewrite) i => (a, i)) (fun a k => a ++ freeRw m k.toNat) (fun i a => a.length ≤ 84000 + i * 2) (by
   intro i hi a hk
   have hm : ∃ n : Nat, (freeI m)[i] = (n : Int) := by
    have : (freeI m)[i] ∈ freeI m := List.getElem_mem hi
    unfold freeI at this
    obtain ⟨n, _, hn⟩ := List.mem_map.1 this
    exact ⟨n, hn.symm⟩
   obtain ⟨n, hn⟩ := hm
   have hfl := freeRw_len m n
   rw [hn, Int.toNat_natCast]
   refine ⟨?_, by rw [List.length_append]; omega⟩
   simp only [F_impl_haltRewrites_L1, Int.ofNat_lt, hi, decide_true, cond_true, idx_nat hi, bnd_some_eq, hn, nz_ok hS]
   rw [app_ok (by simp; omega), bnd_some_eq]
   unfold freeRw
   cases decide (Int.tmod (n : Int) m.Symbols = 0)
   ·simp
   ·rw [cond_true, app_ok (by simp; omega), bnd_some_eq, cond_true, List.append_assoc]) (ownL m s) (by omega)).1
  rw [foldl_app1 (fun k : Int => freeRw m k.toNat)] at hrun
  have efl : (freeI m).flatMap (fun k : Int => freeRw m k.toNat) = (List.range m.Rules.length).flatMap fun i => cond (isNo m i) (freeRw m i) [] := by
   unfold freeI
   rw [map_flat (freeRw m) _ (fun i => by rw [Int.toNat_natCast]), filter_flat]
  rw [efl] at hrun
  rw [hrun, run_done (x := Out.brk (ownL m s ++ ((List.range m.Rules.length).flatMap fun i => cond (isNo m i) (freeRw m i) []), ((freeI m).length : Int))) (by simp [F_impl_haltRewrites_L1])]
  simp only [bnd_some_eq, Out.elim]
  rw [run_syms (body := F_impl_haltRewrites_L2 m _) s b2 (eraseRw m) (fun k _ => by simp [eraseRw]) _ (by rw [List.length_append]; omega) (fun i a hi ha => by
   simp only [F_impl_haltRewrites_L2]
   rw [decide_eq_true (by omega), cond_true, app_ok (by simp; omega), bnd_some_eq, app_ok (by simp; omega), bnd_some_eq, List.append_assoc]
   rfl) (fun a => by
   simp only [F_impl_haltRewrites_L2]
   rw [decide_eq_false (by omega)]; rfl)]
  simp only [bnd_some_eq]
  show cond (decide ((60 : Int) < ((haltL m s).length : Int))) _ _ = _
  rw [show decide ((60 : Int) < ((haltL m s).length : Int)) = decide (60 < (haltL m s).length) by rw [decide_eq_decide]; omega]
  cases decide (60 < (haltL m s).length) <;> rfl
 ·rfl
def smallRw (r : GRewrite) : Bool := decide (r.From.length ≤ 5) && decide (r.To.length ≤ 5)
theorem rwOf_small (s : Nat) (S b k : Int) (r : GRule) : (rwOf s S b k r).all smallRw = true := by
 unfold rwOf
 cases decide (r.Move = 1) <;> cases decide (Int.tmod k S = 0) <;> simp [smallRw]
theorem freeRw_small (m : GMachine) (i : Nat) : (freeRw m i).all smallRw = true := by
 unfold freeRw
 cases decide (Int.tmod (i : Int) m.Symbols = 0) <;> simp [smallRw]
theorem eraseRw_small (m : GMachine) (i : Nat) : (eraseRw m i).all smallRw = true := by
 simp [eraseRw, smallRw]
theorem rw_small {m : GMachine} {s : Nat} : (haltL m s).all smallRw = true := by
 unfold haltL ownL
 rw [List.all_append, List.all_append, List.all_flatMap, List.all_flatMap, List.all_flatMap, Bool.and_eq_true, Bool.and_eq_true, List.all_eq_true, List.all_eq_true, List.all_eq_true]
 refine ⟨⟨fun i _ => ?_, fun i _ => ?_⟩, fun i _ => eraseRw_small m i⟩
 ·unfold ownRw
  cases decide (m.Rules.getD i noR = noR)
  ·exact rwOf_small _ _ _ _ _
  ·rfl
 ·cases isNo m i
  ·rfl
  ·exact freeRw_small m i
theorem rw_mem {m : GMachine} {s : Nat} {r : GRewrite} (h : r ∈ haltL m s) : r.From.length ≤ 5 ∧ r.To.length ≤ 5 := by
 have := List.all_eq_true.1 rw_small r h
 unfold smallRw at this
 simpa using this
end Go.Fn
namespace Go.Tc
open Go
theorem slc_from {α : Type} {xs : List α} {lo : Nat} (h : lo ≤ xs.length) : slc xs (lo : Int) (xs.length : Int) = some (xs.drop lo) := by
 rw [slc_ok h (Nat.le_refl _), List.take_length]
end Go.Tc
namespace Go.Fn
open Go Go.Tc
theorem impl_moved (xs : List Int) (k : Int) (h : xs.length ≤ 1048576) : F_impl_moved xs k = some (xs.map fun x => w64 (x + k)) := by
 unfold F_impl_moved
 have := (run_rowf (body := F_impl_moved_L1 xs k) xs (by omega) (fun (a : List Int) i => (a, i)) (fun a x => a ++ [w64 (x + k)]) (fun i a => a.length = i) (by
  intro i hi a hk
  refine ⟨?_, by simp [hk]⟩
  simp only [F_impl_moved_L1, Int.ofNat_lt, hi, decide_true, cond_true, idx_nat hi, bnd_some_eq]
  rw [app_ok (by simp; omega), bnd_some_eq]) [] rfl).1
 rw [foldl_snoc, List.nil_append] at this
 rw [this, run_done (x := .brk (xs.map fun x => w64 (x + k), (xs.length : Int))) (by simp [F_impl_moved_L1])]
 rfl
theorem impl_index (xs : List Int) (x : Int) (h : xs.length ≤ 1048576) : F_slices_Index_Sint64_int64 xs x = some (match xs.findIdx? (fun y => decide (x = y)) with | none => -1 | some i => (i : Int)) := by
 unfold F_slices_Index_Sint64_int64
 refine run_find xs (by omega) (fun y => decide (x = y)) (fun i hi => ?_) (by simp [F_slices_Index_Sint64_int64_L1])
 simp only [F_slices_Index_Sint64_int64_L1, Int.ofNat_lt, hi, decide_true, cond_true, idx_nat hi, bnd_some_eq]
 by_cases e : x = xs[i]
 ·simp [e]
 ·simp [e]
end Go.Fn
namespace Go.Fn
open Go Go.Tc
theorem rulesP_ok {rs : List GRewrite} {f t : List Int} (h : (rulesP rs f t).2 = 0) : rulesP rs f t = (rulesL rs f t, 0) ∧ domsB (rulesL rs f t) = true := by
 unfold rulesP at h ⊢
 revert h
 cases smallB f && smallB t && rs.all (fun r => leastB 5 (toD r)) <;> cases hD : domsB (rulesL rs f t) <;> simp
theorem ready_eq (rs : List GRewrite) (f t : List Int) (s0 : Sml rs) (s1 : Sml f) (s2 : Sml t) : F_spec_l32Ready rs f t = some (rewsB rs && (wordB f && wordB t)) ∧ F_impl_ValidRewrites rs = some (rewsB rs) ∧ F_impl_areWords [f, t] = some (wordB f && wordB t) := by
 refine ⟨?_, impl_rews rs s0, two_words f t s1 s2⟩
 unfold F_spec_l32Ready
 rw [spec_rews rs s0, bnd_some_eq, spec_word f s1.1, spec_word t s2.1]
 cases rewsB rs
 ·rfl
 ·cases wordB f <;> rfl
end Go.Fn
namespace Go.Fn
open Go Go.Tc
theorem inB_iff' {x lo hi : Int} : inB x lo hi = true ↔ lo ≤ x ∧ x ≤ hi := by
 unfold inB
 simp only [Bool.and_eq_true, decide_eq_true_eq]
theorem slc0' {α : Type} {xs : List α} {hi : Nat} (h : hi ≤ xs.length) : slc xs 0 (hi : Int) = some (xs.take hi) := by
 have := slc_ok (xs := xs) (lo := 0) (hi := hi) (Nat.zero_le _) h
 rw [List.drop_zero] at this
 exact this
def zR : GRewrite := ⟨[], []⟩
def putW (w t : List Int) (a n : Nat) : List Int := w.take a ++ t ++ w.drop (a + n)
def applyW (rs : List GRewrite) (w : List Int) (r a : Int) : List Int × Int :=
 cond (inB r 0 ((rs.length : Int) - 1) && inB a 0 (w.length : Int))
  (cond (decide ((w.drop a.toNat).take (rs.getD r.toNat zR).From.length = (rs.getD r.toNat zR).From))
   (cond (decide (400 < (putW w (rs.getD r.toNat zR).To a.toNat (rs.getD r.toNat zR).From.length).length)) ([], 5) (putW w (rs.getD r.toNat zR).To a.toNat (rs.getD r.toNat zR).From.length, 0)) ([], 3)) ([], 2)
theorem rget_len {rs : List GRewrite} (h : rewsB rs = true) (k : Nat) : (rs.getD k zR).From.length ≤ 400 ∧ (rs.getD k zR).To.length ≤ 400 := by
 rw [List.getD_eq_getElem?_getD]
 cases e : rs[k]? with
 | none => exact ⟨Nat.zero_le _, Nat.zero_le _⟩
 | some d => exact rewsB_mem h (List.mem_of_getElem? e)
theorem take_eq_len {w f : List Int} {a : Nat} (h : (w.drop a).take f.length = f) (ha : a ≤ w.length) : a + f.length ≤ w.length := by
 have := congrArg List.length h
 simp only [List.length_take, List.length_drop] at this
 omega
theorem putW_len {w t : List Int} {a n : Nat} (h : a + n ≤ w.length) : (putW w t a n).length = w.length - n + t.length := by
 simp [putW]; omega
theorem impl_begins (z f : List Int) (hz : z.length ≤ 1048576) : F_impl_begins z f = some (decide (z.take f.length = f)) := by
 unfold F_impl_begins
 by_cases h : f.length ≤ z.length
 ·rw [decide_eq_true (by omega), cond_true, slc0' h, bnd_some_eq, impl_equal _ _ (by simp; omega)]
  rfl
 ·rw [decide_eq_false (by omega), cond_false, decide_eq_false]
  intro e
  have := congrArg List.length e
  simp only [List.length_take] at this
  omega
theorem spec_at (w f : List Int) (a : Nat) (hw : w.length ≤ 1048576) (ha : a ≤ w.length) (hf : f.length ≤ 1048576) : F_spec_l03At w (a : Int) f = some (decide ((w.drop a).take f.length = f)) := by
 unfold F_spec_l03At
 rw [w64_add (by omega)]
 by_cases h : a + f.length ≤ w.length
 ·rw [decide_eq_true (by omega), cond_true, slc_ok (by omega) h, bnd_some_eq, spec_same _ _ (by simp; omega)]
  rw [List.drop_take, Nat.add_sub_cancel_left]
  rfl
 ·rw [decide_eq_false (by omega), cond_false, decide_eq_false]
  intro e
  exact h (take_eq_len e ha)
theorem spec_put (w t : List Int) (a n : Nat) (hw : w.length ≤ 1048576) (ht : t.length ≤ 1048576) (h : a + n ≤ w.length) : F_spec_l03Put w (a : Int) (n : Int) t = some (putW w t a n) := by
 unfold F_spec_l03Put
 rw [slc0' (by omega), bnd_some_eq, spec_own _ (by simp; omega), bnd_some_eq, app_ok (by simp; omega), bnd_some_eq, w64_add (by omega), slc_from h, bnd_some_eq, app_ok (by simp; omega), bnd_some_eq]
 rfl
theorem impl_put (w t : List Int) (a n : Nat) (hw : w.length ≤ 400000) (ht : t.length ≤ 400) (h : a + n ≤ w.length) : F_impl_replaced w (a : Int) (n : Int) t = some (putW w t a n) := by
 unfold F_impl_replaced
 rw [slc0' (by omega), bnd_some_eq, w64_add (by omega), slc_from h, bnd_some_eq, impl_joined _ (by simp) (by simp; omega), bnd_some_eq]
 simp [putW]
theorem spec_apply (rs : List GRewrite) (w : List Int) (r a : Int) (hr : rewsB rs = true) (hs : Sml rs) (hw : wordB w = true) : F_spec_ApplyRewrite rs w r a = some (applyW rs w r a) := by
 have hl := rewsB_len hr
 have hwl := wordB_len hw
 unfold F_spec_ApplyRewrite applyW
 rw [spec_rews rs hs, hr, spec_word w (by omega), hw, w64_in (by omega) (by omega), spec_in, spec_in]
 simp only [bnd_some_eq, Bool.not_true, cond_false, Out.elim]
 cases h1 : inB r 0 ((rs.length : Int) - 1)
 ·rfl
 cases h2 : inB a 0 (w.length : Int)
 ·rfl
 have h1' := inB_iff'.1 h1
 have h2' := inB_iff'.1 h2
 obtain ⟨n, rfl⟩ : ∃ n : Nat, a = n := ⟨a.toNat, by omega⟩
 simp only [Bool.not_true, cond_false, Bool.and_self, cond_true, Int.toNat_natCast]
 unfold F_spec_l10Apply
 have hg := rget_len hr r.toNat
 rw [idx_getD zR (by omega) (by omega), bnd_some_eq]
 generalize rs.getD r.toNat zR = R at hg
 rw [spec_at w R.From n (by omega) (by omega) (by omega), bnd_some_eq]
 by_cases hb : (w.drop n).take R.From.length = R.From
 ·have hn := take_eq_len hb (by omega)
  have hpl := putW_len (t := R.To) hn
  rw [decide_eq_true hb, spec_put w R.To n R.From.length (by omega) (by omega) hn]
  simp only [Bool.not_true, cond_false, cond_true, bnd_some_eq]
  rw [show w64 (w64 ((w.length : Int) - (R.From.length : Int)) + (R.To.length : Int)) = ((putW w R.To n R.From.length).length : Int) by rw [w64_in (n := (w.length : Int) - (R.From.length : Int)) (by omega) (by omega), w64_in (by omega) (by omega)]; omega]
  rw [show decide ((400 : Int) < ((putW w R.To n R.From.length).length : Int)) = decide (400 < (putW w R.To n R.From.length).length) by rw [decide_eq_decide]; omega]
  cases decide (400 < (putW w R.To n R.From.length).length) <;> rfl
 ·rw [decide_eq_false hb]
  rfl
theorem impl_apply (rs : List GRewrite) (w : List Int) (r a : Int) (hr : rewsB rs = true) (hwl : w.length ≤ 400) : F_impl_applyRewrite rs w r a = some (applyW rs w r a) := by
 have hl := rewsB_len hr
 unfold F_impl_applyRewrite applyW F_impl_size_impl_Rewrite F_impl_size_int64
 simp only [bnd_some_eq]
 rw [w64_in (by omega) (by omega), impl_in, impl_in]
 simp only [bnd_some_eq]
 cases h1 : inB r 0 ((rs.length : Int) - 1)
 ·rfl
 cases h2 : inB a 0 (w.length : Int)
 ·rfl
 have h1' := inB_iff'.1 h1
 have h2' := inB_iff'.1 h2
 obtain ⟨n, rfl⟩ : ∃ n : Nat, a = n := ⟨a.toNat, by omega⟩
 simp only [Bool.not_true, cond_false, Bool.and_self, cond_true, Int.toNat_natCast, bnd_some_eq, Out.elim]
 have hg := rget_len hr r.toNat
 rw [idx_getD zR (by omega) (by omega), bnd_some_eq]
 generalize rs.getD r.toNat zR = R at hg
 rw [slc_from (by omega), bnd_some_eq, impl_begins _ _ (by simp; omega), bnd_some_eq]
 by_cases hb : (w.drop n).take R.From.length = R.From
 ·have hn := take_eq_len hb (by omega)
  rw [decide_eq_true hb, impl_put w R.To n R.From.length (by omega) (by omega) hn]
  unfold F_impl_fitting
  simp only [Bool.not_true, cond_false, cond_true, bnd_some_eq]
  rw [show decide ((400 : Int) < ((putW w R.To n R.From.length).length : Int)) = decide (400 < (putW w R.To n R.From.length).length) by rw [decide_eq_decide]; omega]
  cases decide (400 < (putW w R.To n R.From.length).length) <;> rfl
 ·rw [decide_eq_false hb]
  rfl
theorem applyW_ok {rs : List GRewrite} {w : List Int} {r a : Int} (h : (applyW rs w r a).2 = 0) :
  0 ≤ r ∧ r < rs.length ∧ 0 ≤ a ∧ a.toNat + (rs.getD r.toNat zR).From.length ≤ w.length ∧ applyW rs w r a = (putW w (rs.getD r.toNat zR).To a.toNat (rs.getD r.toNat zR).From.length, 0) ∧ (putW w (rs.getD r.toNat zR).To a.toNat (rs.getD r.toNat zR).From.length).length ≤ 400 := by
 unfold applyW at h ⊢
 cases h1 : inB r 0 ((rs.length : Int) - 1)
 ·rw [h1] at h; simp at h
 cases h2 : inB a 0 (w.length : Int)
 ·rw [h1, h2] at h; simp at h
 rw [h1, h2] at h
 have h1' := inB_iff'.1 h1
 have h2' := inB_iff'.1 h2
 by_cases hb : (w.drop a.toNat).take (rs.getD r.toNat zR).From.length = (rs.getD r.toNat zR).From
 ·have hn := take_eq_len hb (by omega)
  rw [decide_eq_true hb] at h ⊢
  by_cases hc : 400 < (putW w (rs.getD r.toNat zR).To a.toNat (rs.getD r.toNat zR).From.length).length
  ·rw [decide_eq_true hc] at h; simp at h
  ·rw [decide_eq_false hc]
   exact ⟨by omega, by omega, by omega, hn, rfl, by omega⟩
 ·rw [decide_eq_false hb] at h; simp at h
theorem applyW_word {rs : List GRewrite} {w : List Int} {r a : Int} (hr : rewsB rs = true) (hw : wordB w = true) (h : (applyW rs w r a).2 = 0) : wordB (applyW rs w r a).1 = true := by
 obtain ⟨h1, h2, h3, h4, h5, h6⟩ := applyW_ok h
 rw [h5]
 unfold wordB at hw ⊢
 simp only [Bool.and_eq_true, decide_eq_true_eq] at hw ⊢
 refine ⟨h6, List.all_eq_true.2 fun x hx => ?_⟩
 have hT : ∀ y ∈ (rs.getD r.toNat zR).To, inB y 0 9 = true := by
  intro y hy
  have hm : rs.getD r.toNat zR ∈ rs := by
   rw [List.getD_eq_getElem?_getD, List.getElem?_eq_getElem (by omega)]
   exact List.getElem_mem _
  unfold rewsB at hr
  simp only [Bool.and_eq_true] at hr
  have := List.all_eq_true.1 hr.2 _ hm
  unfold rewB wordB at this
  simp only [Bool.and_eq_true] at this
  exact List.all_eq_true.1 this.1.2.2 y hy
 simp only [putW, List.mem_append] at hx
 rcases hx with (hx | hx) | hx
 ·exact List.all_eq_true.1 hw.2 x (List.mem_of_mem_take hx)
 ·exact hT x hx
 ·exact List.all_eq_true.1 hw.2 x (List.mem_of_mem_drop hx)
def derW (rs : List GRewrite) : List (List Int) → List Int → List Int × Int
 | [], w => (w, 0)
 | s :: ss, w => cond (decide (s.length ≠ 2)) ([], 7) (cond (decide ((applyW rs w (s.getD 0 0) (s.getD 1 0)).2 ≠ 0)) ([], 7) (derW rs ss (applyW rs w (s.getD 0 0) (s.getD 1 0)).1))
theorem derW_cons {rs : List GRewrite} {s : List Int} {ss : List (List Int)} {w : List Int} (h : (derW rs (s :: ss) w).2 = 0) :
  s.length = 2 ∧ (applyW rs w (s.getD 0 0) (s.getD 1 0)).2 = 0 ∧ (derW rs ss (applyW rs w (s.getD 0 0) (s.getD 1 0)).1).2 = 0 := by
 unfold derW at h
 by_cases h1 : s.length ≠ 2
 ·rw [decide_eq_true h1] at h; simp at h
 by_cases h2 : (applyW rs w (s.getD 0 0) (s.getD 1 0)).2 ≠ 0
 ·rw [decide_eq_false h1, decide_eq_true h2] at h; simp at h
 rw [decide_eq_false h1, decide_eq_false h2] at h
 exact ⟨Classical.not_not.1 h1, Classical.not_not.1 h2, h⟩
theorem derW_len {rs : List GRewrite} : ∀ (ss : List (List Int)) (w : List Int), w.length ≤ 400 → (derW rs ss w).1.length ≤ 400 := by
 intro ss
 induction ss with
 | nil => intro w h; exact h
 | cons s ss ih =>
  intro w h
  unfold derW
  cases decide (s.length ≠ 2)
  ·by_cases e2 : (applyW rs w (s.getD 0 0) (s.getD 1 0)).2 ≠ 0
   ·rw [decide_eq_true e2]; exact Nat.zero_le _
   ·rw [decide_eq_false e2]
    obtain ⟨_, _, _, _, q5, q6⟩ := applyW_ok (Classical.not_not.1 e2)
    exact ih _ (by rw [q5]; exact q6)
  ·exact Nat.zero_le _
theorem dec_ne2 (n : Nat) : decide ((n : Int) ≠ 2) = decide (n ≠ 2) := by rw [decide_eq_decide]; omega
theorem two_get {s : List Int} (h : s.length = 2) : idx s 0 = some (s.getD 0 0) ∧ idx s 1 = some (s.getD 1 0) := by
 refine ⟨?_, ?_⟩
 ·rw [idx_getD 0 (by omega) (by omega)]; rfl
 ·rw [idx_getD 0 (by omega) (by omega)]; rfl
theorem derived_run {body : List Int × Int → Option ((List Int × Int) ⊕ Out (List Int × Int) (List Int × Int))} (rs : List GRewrite) (ss : List (List Int)) (hr : rewsB rs = true) (hn : ss.length ≤ 100)
  (h1 : ∀ (w : List Int) (i : Nat) (hi : i < ss.length), wordB w = true → body (w, (i : Int)) = cond (decide (ss[i].length ≠ 2)) (some (.inr (.ret ([], 7)))) (cond (decide ((applyW rs w (ss[i].getD 0 0) (ss[i].getD 1 0)).2 ≠ 0)) (some (.inr (.ret ([], 7)))) (some (.inl ((applyW rs w (ss[i].getD 0 0) (ss[i].getD 1 0)).1, w64 ((i : Int) + 1))))))
  (h2 : ∀ w, body (w, (ss.length : Int)) = some (.inr (.brk (w, (ss.length : Int))))) (w : List Int) (hw : wordB w = true) :
  bnd (run body (w, 0)) (Out.elim (fun (s13 : (List Int) × Int) => some (s13.1, 0)) (fun (r : (List Int) × Int) => some r)) = some (derW rs ss w) := by
 have key : ∀ k i w, i + k = ss.length → wordB w = true → bnd (run body (w, (i : Int))) (Out.elim (fun (s13 : (List Int) × Int) => some (s13.1, 0)) (fun (r : (List Int) × Int) => some r)) = some (derW rs (ss.drop i) w) := by
  intro k
  induction k with
  | zero =>
   intro i w hi _
   obtain rfl : i = ss.length := by omega
   rw [run_done (h2 w), List.drop_length]
   rfl
  | succ k ih =>
   intro i w hi hw
   have hlt : i < ss.length := by omega
   have hb := h1 w i hlt hw
   rw [List.drop_eq_getElem_cons hlt]
   unfold derW
   by_cases e1 : ss[i].length ≠ 2
   ·rw [decide_eq_true e1] at hb ⊢
    rw [run_done hb]; rfl
   by_cases e2 : (applyW rs w (ss[i].getD 0 0) (ss[i].getD 1 0)).2 ≠ 0
   ·rw [decide_eq_false e1, decide_eq_true e2] at hb ⊢
    rw [run_done hb]; rfl
   rw [decide_eq_false e1, decide_eq_false e2] at hb ⊢
   rw [run_next hb, w64_nat1 (by omega)]
   exact ih (i + 1) _ (by omega) (applyW_word hr hw (Classical.not_not.1 e2))
 have := key ss.length 0 w (by omega) hw
 rwa [List.drop_zero, show ((0 : Nat) : Int) = 0 from rfl] at this
def derP (rs : List GRewrite) (ss : List (List Int)) (w : List Int) : List Int × Int := cond (decide (100 < ss.length)) ([], 2) (derW rs ss w)
theorem dec_100 (n : Nat) : decide ((100 : Int) < (n : Int)) = decide (100 < n) := by rw [decide_eq_decide]; omega
theorem spec_derived (rs : List GRewrite) (w : List Int) (ss : List (List Int)) (hr : rewsB rs = true) (hs : Sml rs) (hw : wordB w = true) (hss : ss.length ≤ 1048576) : F_spec_CheckDerivation rs w ss = some (derP rs ss w) := by
 have hwl := wordB_len hw
 unfold F_spec_CheckDerivation derP
 rw [spec_rews rs hs, hr, spec_word w (by omega), hw, dec_100]
 simp only [bnd_some_eq, Bool.not_true, cond_false, Out.elim]
 by_cases h : 100 < ss.length
 ·rw [decide_eq_true h]; rfl
 rw [decide_eq_false h, cond_false, cond_false, spec_own w (by omega), bnd_some_eq]
 refine derived_run (body := F_spec_CheckDerivation_L1 rs ss) rs ss hr (by omega) (fun w i hi hw => ?_) (fun w => by simp [F_spec_CheckDerivation_L1]) w hw
 simp only [F_spec_CheckDerivation_L1, Int.ofNat_lt, hi, decide_true, cond_true, idx_nat hi, bnd_some_eq, dec_ne2]
 by_cases e1 : ss[i].length ≠ 2
 ·rw [decide_eq_true e1]; rfl
 ·obtain ⟨g1, g2⟩ := two_get (Classical.not_not.1 e1)
  rw [decide_eq_false e1, g1, g2]
  simp only [cond_false, bnd_some_eq, spec_apply rs w _ _ hr hs hw]
theorem impl_derived (rs : List GRewrite) (w : List Int) (ss : List (List Int)) (hr : rewsB rs = true) (hw : wordB w = true) (hss : ss.length ≤ 1048576) : F_impl_derived rs w ss = some (derP rs ss w) := by
 have hwl := wordB_len hw
 unfold F_impl_derived derP
 rw [dec_100]
 by_cases h : 100 < ss.length
 ·rw [decide_eq_true h]; rfl
 rw [decide_eq_false h, cond_false, cond_false, impl_clone w (by omega), bnd_some_eq]
 refine derived_run (body := F_impl_derived_L1 rs ss) rs ss hr (by omega) (fun w i hi hw => ?_) (fun w => by simp [F_impl_derived_L1]) w hw
 simp only [F_impl_derived_L1, Int.ofNat_lt, hi, decide_true, cond_true, idx_nat hi, bnd_some_eq, dec_ne2]
 by_cases e1 : ss[i].length ≠ 2
 ·rw [decide_eq_true e1]; rfl
 ·obtain ⟨g1, g2⟩ := two_get (Classical.not_not.1 e1)
  rw [decide_eq_false e1, g1, g2]
  simp only [cond_false, bnd_some_eq, impl_apply rs w _ _ hr (wordB_len hw)]
def plus1 (xs : List Int) : List Int := xs.map fun x => w64 (x + 1)
def mstep (rs : List GRewrite) (a : List Int × List Int) (s : List Int) : List Int × List Int :=
 (a.1 ++ plus1 (a.2.take (s.getD 1 0).toNat) ++ [w64 (8 + s.getD 0 0)] ++ plus1 (a.2.drop ((s.getD 1 0).toNat + (rs.getD (s.getD 0 0).toNat zR).From.length)) ++ [7], (applyW rs a.2 (s.getD 0 0) (s.getD 1 0)).1)
theorem mstep_len (rs : List GRewrite) (a : List Int × List Int) (s : List Int) : a.1.length ≤ (mstep rs a s).1.length ∧ (mstep rs a s).1.length ≤ a.1.length + 2 * a.2.length + 2 := by
 simp [mstep, plus1]; omega
theorem mfold_len (rs : List GRewrite) : ∀ (ss : List (List Int)) (a : List Int × List Int), a.1.length ≤ (ss.foldl (mstep rs) a).1.length
 | [], _ => Nat.le_refl _
 | s :: ss, a => Nat.le_trans (mstep_len rs a s).1 (mfold_len rs ss _)
theorem mod_run {R : Type} {body : List Int × List Int × Int → Option ((List Int × List Int × Int) ⊕ Out (List Int × List Int × Int) R)} (rs : List GRewrite) (ss : List (List Int)) (hr : rewsB rs = true) (hn : ss.length ≤ 100) (out : R) (early : Bool)
  (h1 : ∀ (a : List Int × List Int) (i : Nat) (hi : i < ss.length), wordB a.2 = true → ss[i].length = 2 → (applyW rs a.2 (ss[i].getD 0 0) (ss[i].getD 1 0)).2 = 0 → a.1.length ≤ 1 + i * 802 →
   body (a.1, a.2, (i : Int)) = cond (early && decide (400 < (mstep rs a ss[i]).1.length)) (some (.inr (.ret out))) (some (.inl ((mstep rs a ss[i]).1, (mstep rs a ss[i]).2, w64 ((i : Int) + 1)))))
  (h2 : ∀ a b, body (a, b, (ss.length : Int)) = some (.inr (.brk (a, b, (ss.length : Int))))) (w : List Int) (hw : wordB w = true) (hd : (derW rs ss w).2 = 0) :
  (ss.foldl (mstep rs) ([0], w)).1.length ≤ 1 + ss.length * 802 ∧ (run body ([0], w, 0) = some (.brk ((ss.foldl (mstep rs) ([0], w)).1, (ss.foldl (mstep rs) ([0], w)).2, (ss.length : Int))) ∨ (early = true ∧ 400 < (ss.foldl (mstep rs) ([0], w)).1.length ∧ run body ([0], w, 0) = some (.ret out))) := by
 have key : ∀ k i (a : List Int × List Int), i + k = ss.length → wordB a.2 = true → (derW rs (ss.drop i) a.2).2 = 0 → a.1.length ≤ 1 + i * 802 →
   ((ss.drop i).foldl (mstep rs) a).1.length ≤ 1 + ss.length * 802 ∧ (run body (a.1, a.2, (i : Int)) = some (.brk (((ss.drop i).foldl (mstep rs) a).1, ((ss.drop i).foldl (mstep rs) a).2, (ss.length : Int))) ∨ (early = true ∧ 400 < ((ss.drop i).foldl (mstep rs) a).1.length ∧ run body (a.1, a.2, (i : Int)) = some (.ret out))) := by
  intro k
  induction k with
  | zero =>
   intro i a hi _ _ hl
   obtain rfl : i = ss.length := by omega
   rw [List.drop_length]
   exact ⟨hl, .inl (run_done (h2 a.1 a.2))⟩
  | succ k ih =>
   intro i a hi hw hd hl
   have hlt : i < ss.length := by omega
   rw [List.drop_eq_getElem_cons hlt] at hd ⊢
   obtain ⟨d1, d2, d3⟩ := derW_cons hd
   have hb := h1 a i hlt hw d1 d2 hl
   have hwl := wordB_len hw
   have hm := mstep_len rs a ss[i]
   have hnext := ih (i + 1) (mstep rs a ss[i]) (by omega) (applyW_word hr hw d2) d3 (by rw [Nat.add_mul]; omega)
   rw [List.foldl_cons]
   refine ⟨hnext.1, ?_⟩
   cases hc : (early && decide (400 < (mstep rs a ss[i]).1.length))
   ·rw [hc] at hb
    rw [run_next hb, w64_nat1 (by omega)]
    exact hnext.2
   ·rw [hc] at hb
    simp only [Bool.and_eq_true, decide_eq_true_eq] at hc
    exact .inr ⟨hc.1, Nat.lt_of_lt_of_le hc.2 (mfold_len rs _ _), run_done hb⟩
 have := key ss.length 0 ([0], w) (by omega) hw (by rw [List.drop_zero]; exact hd) (by simp)
 rwa [List.drop_zero, show ((0 : Nat) : Int) = 0 from rfl] at this
theorem copies_run {R : Type} {body : List Int × Int → Option ((List Int × Int) ⊕ Out (List Int × Int) R)} (z a : List Int) (hz : z.length ≤ 1048576) (ha : a.length ≤ 1048576)
  (h1 : ∀ (i : Nat) (hi : i < z.length) (a : List Int), a.length ≤ 4194304 → body (a, (i : Int)) = some (.inl (a ++ [w64 (z[i] + 1)], w64 ((i : Int) + 1))))
  (h2 : ∀ a, body (a, (z.length : Int)) = some (.inr (.brk (a, (z.length : Int))))) : run body (a, 0) = some (.brk (a ++ plus1 z, (z.length : Int))) := by
 have := (run_rowf (body := body) z (by omega) (fun (a : List Int) i => (a, i)) (fun a x => a ++ [w64 (x + 1)]) (fun i b => b.length = a.length + i) (by
  intro i hi b hk
  exact ⟨h1 i hi b (by omega), by simp; omega⟩) a (by omega)).1
 rw [foldl_snoc] at this
 rw [this, run_done (h2 _)]
 rfl
theorem ex_MatchOfDerivation (rs : List GRewrite) (f t : List Int) (ss : List (List Int)) (s0 : Sml rs) (s1 : Sml f) (s2 : Sml t) (s3 : Sml ss) :
  ∃ w : List Int × Int, F_spec_MatchOfDerivation rs f t ss = some w ∧ F_impl_MatchOfDerivation rs f t ss = some w ∧ Med w.1 ∧ Cnt.cnt w.1 ≤ 1152921504606846976 := by
 have nil : Med ([] : List Int) ∧ Cnt.cnt ([] : List Int) ≤ 1152921504606846976 := ints_fit (Nat.zero_le _)
 unfold F_spec_MatchOfDerivation F_impl_MatchOfDerivation F_impl_RewritesToDominoes
 obtain ⟨e1, e2, e3⟩ := ready_eq rs f t s0 s1 s2
 rw [e1, e2, e3]
 simp only [bnd_some_eq]
 cases hr : rewsB rs
 ·exact ⟨_, rfl, rfl, nil⟩
 cases hf : wordB f
 ·exact ⟨_, rfl, rfl, nil⟩
 cases ht : wordB t
 ·exact ⟨_, rfl, rfl, nil⟩
 simp only [Bool.and_self, Bool.not_true, cond_false]
 have lf := wordB_len hf
 have lt := wordB_len ht
 rw [spec_rules rs f t hr s0 lf lt, impl_rules rs f t hr s0 lf lt]
 simp only [bnd_some_eq]
 by_cases hc' : (rulesP rs f t).2 ≠ 0
 ·rw [decide_eq_true hc']; exact ⟨_, rfl, rfl, nil⟩
 obtain ⟨hp, hD⟩ := rulesP_ok (Classical.not_not.1 hc')
 rw [decide_eq_false hc', hp]
 simp only [cond_false]
 rw [spec_derived rs f ss hr s0 hf s3.1, impl_derived rs f ss hr hf s3.1]
 simp only [bnd_some_eq]
 by_cases hd' : (derP rs ss f).2 ≠ 0
 ·rw [decide_eq_true hd']; exact ⟨_, rfl, rfl, nil⟩
 have hd := Classical.not_not.1 hd'
 rw [decide_eq_false hd']
 unfold derP at hd ⊢
 by_cases h100 : 100 < ss.length
 ·rw [decide_eq_true h100] at hd; simp at hd
 rw [decide_eq_false h100] at hd ⊢
 simp only [cond_false] at hd ⊢
 have hdl : (derW rs ss f).1.length ≤ 1048576 := by
  have := derW_len (rs := rs) ss f lf
  omega
 rw [spec_same _ _ hdl, impl_equal _ _ hdl]
 simp only [bnd_some_eq]
 by_cases he : (derW rs ss f).1 = t
 ·rw [decide_eq_true he]
  simp only [Bool.not_true, cond_false]
  rw [spec_own f (by omega), bnd_some_eq]
  obtain ⟨bl, hs⟩ := mod_run (body := F_spec_MatchOfDerivation_L1 rs ss) rs ss hr (by omega) ([], 5) true (fun a i hi hw d1 d2 hl => by
   obtain ⟨g1, g2⟩ := two_get d1
   obtain ⟨q1, q2, q3, q4, q5, q6⟩ := applyW_ok d2
   have hwl := wordB_len hw
   have hrl := rget_len hr (ss[i].getD 0 0).toNat
   simp only [F_spec_MatchOfDerivation_L1, Int.ofNat_lt, hi, decide_true, cond_true, idx_nat hi, bnd_some_eq, g1, g2]
   rw [idx_getD zR q1 q2, bnd_some_eq]
   obtain ⟨n, hn⟩ : ∃ n : Nat, ss[i].getD 1 0 = n := ⟨(ss[i].getD 1 0).toNat, by omega⟩
   unfold mstep
   rw [q5]
   rw [hn] at q4 ⊢
   rw [Int.toNat_natCast] at q4 ⊢
   generalize hR : rs.getD (ss[i].getD 0 0).toNat zR = Ru at *
   rw [slc0' (by omega), bnd_some_eq, copies_run (body := F_spec_MatchOfDerivation_L2 (a.2.take n)) (a.2.take n) a.1 (by simp; omega) (by omega) (fun j hj b hb => by
    simp only [F_spec_MatchOfDerivation_L2, Int.ofNat_lt, hj, decide_true, cond_true, idx_nat hj, bnd_some_eq]
    rw [app_ok (by simp; omega), bnd_some_eq, Int.add_comm 1]) (fun b => by simp [F_spec_MatchOfDerivation_L2])]
   simp only [bnd_some_eq, Out.elim]
   rw [app_ok (by simp [plus1]; omega), bnd_some_eq, w64_add (by omega), slc_from (by omega), bnd_some_eq, copies_run (body := F_spec_MatchOfDerivation_L3 (a.2.drop (n + Ru.From.length))) (a.2.drop (n + Ru.From.length)) _ (by simp; omega) (by simp [plus1]; omega) (fun j hj b hb => by
    simp only [F_spec_MatchOfDerivation_L3, Int.ofNat_lt, hj, decide_true, cond_true, idx_nat hj, bnd_some_eq]
    rw [app_ok (by simp; omega), bnd_some_eq, Int.add_comm 1]) (fun b => by simp [F_spec_MatchOfDerivation_L3])]
   simp only [bnd_some_eq, Out.elim]
   rw [app_ok (by simp [plus1]; omega), bnd_some_eq, spec_put _ _ _ _ (by omega) (by omega) (by omega), bnd_some_eq]
   rw [Bool.true_and]
   generalize (a.1 ++ plus1 (a.2.take n) ++ [w64 (8 + ss[i].getD 0 0)] ++ plus1 (a.2.drop (n + Ru.From.length)) ++ [7]) = L
   rw [show decide ((400 : Int) < (L.length : Int)) = decide (400 < L.length) by rw [decide_eq_decide]; omega])
   (fun a b => by simp [F_spec_MatchOfDerivation_L1]) f hf hd
  obtain ⟨_, hi⟩ := mod_run (body := F_impl_MatchOfDerivation_L1 rs ss) rs ss hr (by omega) ([], 5) false (fun a i hi hw d1 d2 hl => by
   obtain ⟨g1, g2⟩ := two_get d1
   obtain ⟨q1, q2, q3, q4, q5, q6⟩ := applyW_ok d2
   have hwl := wordB_len hw
   have hrl := rget_len hr (ss[i].getD 0 0).toNat
   simp only [F_impl_MatchOfDerivation_L1, Int.ofNat_lt, hi, decide_true, cond_true, idx_nat hi, bnd_some_eq, g1, g2]
   rw [idx_getD zR q1 q2, bnd_some_eq, impl_apply rs a.2 _ _ hr hwl]
   obtain ⟨n, hn⟩ : ∃ n : Nat, ss[i].getD 1 0 = n := ⟨(ss[i].getD 1 0).toNat, by omega⟩
   unfold mstep
   rw [q5]
   rw [hn] at q4 ⊢
   rw [Int.toNat_natCast] at q4 ⊢
   generalize hR : rs.getD (ss[i].getD 0 0).toNat zR = Ru at *
   rw [w64_add (by omega), slc_from (by omega), bnd_some_eq, slc0' (by omega), bnd_some_eq, impl_moved _ _ (by simp; omega), bnd_some_eq, impl_moved _ _ (by simp; omega), bnd_some_eq, impl_joined _ (by simp) (by simp; omega), bnd_some_eq, bnd_some_eq]
   rw [Bool.false_and, cond_false]
   have e : ([a.1, (a.2.take n).map (fun x => w64 (x + 1)), [w64 (8 + ss[i].getD 0 0)], (a.2.drop (n + Ru.From.length)).map (fun x => w64 (x + 1)), [7]] : List (List Int)).flatten = a.1 ++ plus1 (a.2.take n) ++ [w64 (8 + ss[i].getD 0 0)] ++ plus1 (a.2.drop (n + Ru.From.length)) ++ [7] := by
    simp [plus1]
   rw [e])
   (fun a b => by simp [F_impl_MatchOfDerivation_L1]) f hf hd
  have hi := hi.resolve_right (fun h => by cases h.1)
  have hdl2 := domsB_len hD
  unfold F_impl_size_impl_Domino F_impl_shortMatch
  generalize ss.foldl (mstep rs) ([0], f) = F at *
  have hFl : F.1.length ≤ 100000 := by omega
  rcases hs with hs | ⟨_, h4, hs⟩
  ·rw [hs, hi]
   simp only [bnd_some_eq, Out.elim]
   rw [app_ok (by simp; omega)]
   simp only [bnd_some_eq]
   generalize hG : F.1 ++ [w64 (((rulesL rs f t).length : Int) - 1)] = G
   have hGl : G.length ≤ 100001 := by rw [← hG]; simp; omega
   cases decide (400 < (G.length : Int))
   ·exact ⟨_, rfl, rfl, ints_fit (by show G.length ≤ _; omega)⟩
   ·exact ⟨_, rfl, rfl, nil⟩
  ·rw [hs, hi]
   simp only [bnd_some_eq, Out.elim]
   rw [app_ok (by simp; omega)]
   simp only [bnd_some_eq]
   rw [decide_eq_true (by simp; omega)]
   exact ⟨_, rfl, rfl, nil⟩
 ·rw [decide_eq_false he]
  exact ⟨_, rfl, rfl, nil⟩
end Go.Fn
namespace Go.Fn
open Go Go.Tc
def let9 (xs : List Int) : Bool := xs.all fun x => inB x 0 9
def goodRw (r : GRewrite) : Bool := let9 r.From && let9 r.To && decide (r.From.length ≠ 0)
theorem inB9 {x : Int} (h0 : 0 ≤ x) (h9 : x ≤ 9) : inB x 0 9 = true := inB_iff.2 ⟨h0, h9⟩
theorem rwOf_good {s q : Nat} {S b k : Int} {r : GRule} (hS : S = s) (hb : b = S + (q : Int)) (h5 : b + 1 ≤ 5) (b1 : 2 ≤ s) (hk : 0 ≤ k ∧ k < (q : Int) * (s : Int)) (hw : 0 ≤ r.Write ∧ r.Write ≤ S - 1) (hn : 0 ≤ r.Next ∧ r.Next ≤ (q : Int) - 1) : (rwOf s S b k r).all goodRw = true := by
 have hm : 0 ≤ Int.tmod k S ∧ Int.tmod k S < S := by
  subst hS
  exact ⟨Int.tmod_nonneg _ hk.1, Int.tmod_lt_of_pos _ (by omega)⟩
 have hd : 0 ≤ Int.tdiv k S ∧ Int.tdiv k S < q := by
  subst hS
  rw [Int.tdiv_eq_ediv_of_nonneg hk.1]
  refine ⟨Int.ediv_nonneg hk.1 (by omega), Int.ediv_lt_of_lt_mul (by omega) hk.2⟩
 have e1 : w64 (Int.tdiv k S) = Int.tdiv k S := w64_in (by omega) (by omega)
 have e2 : w64 (S + Int.tdiv k S) = S + Int.tdiv k S := w64_in (by omega) (by omega)
 have e3 : w64 (S + r.Next) = S + r.Next := w64_in (by omega) (by omega)
 have g1 := inB9 (x := S + Int.tdiv k S) (by omega) (by omega)
 have g2 := inB9 (x := Int.tmod k S) (by omega) (by omega)
 have g3 := inB9 (x := S + r.Next) (by omega) (by omega)
 have g4 := inB9 (x := r.Write) (by omega) (by omega)
 have g5 := inB9 (x := b) (by omega) (by omega)
 have g6 := inB9 (x := (0 : Int)) (by omega) (by omega)
 have g7 : ∀ c ∈ List.range s, inB ((c : Nat) : Int) 0 9 = true := fun c hc => by
  have := List.mem_range.1 hc
  exact inB9 (by omega) (by omega)
 unfold rwOf
 rw [e1, e2, e3]
 have f1 : ((List.range s).flatMap fun (c : Nat) => [(⟨[(c : Int), S + Int.tdiv k S, Int.tmod k S], [S + r.Next, (c : Int), r.Write]⟩ : GRewrite)]).all goodRw = true := by
  rw [List.all_flatMap, List.all_eq_true]
  intro c hc
  simp only [List.all_cons, List.all_nil, goodRw, let9, g1, g2, g3, g4, g7 c hc]
  rfl
 have f2 : ((List.range s).flatMap fun (c : Nat) => [(⟨[(c : Int), S + Int.tdiv k S, b], [S + r.Next, (c : Int), r.Write, b]⟩ : GRewrite)]).all goodRw = true := by
  rw [List.all_flatMap, List.all_eq_true]
  intro c hc
  simp only [List.all_cons, List.all_nil, goodRw, let9, g1, g5, g3, g4, g7 c hc]
  rfl
 cases decide (r.Move = 1) <;> cases decide (Int.tmod k S = 0) <;> simp only [cond_true, cond_false, List.all_append, f1, f2, List.all_cons, List.all_nil, goodRw, let9, g1, g2, g3, g4, g5, g6] <;> rfl
theorem freeRw_good {m : GMachine} {s q : Nat} (hs : m.Symbols = s) (hq : m.States = q) (h5 : m.Symbols + m.States + 1 ≤ 5) (b1 : 2 ≤ s) {i : Nat} (hi : i < q * s) : (freeRw m i).all goodRw = true := by
 have hk : (0 : Int) ≤ (i : Int) ∧ (i : Int) < (q : Int) * (s : Int) := ⟨by omega, by rw [← Int.natCast_mul]; omega⟩
 have hm : 0 ≤ Int.tmod (i : Int) m.Symbols ∧ Int.tmod (i : Int) m.Symbols < m.Symbols := ⟨Int.tmod_nonneg _ hk.1, Int.tmod_lt_of_pos _ (by omega)⟩
 have hd : 0 ≤ Int.tdiv (i : Int) m.Symbols ∧ Int.tdiv (i : Int) m.Symbols < q := by
  rw [Int.tdiv_eq_ediv_of_nonneg hk.1, hs]
  refine ⟨Int.ediv_nonneg hk.1 (by omega), Int.ediv_lt_of_lt_mul (by omega) hk.2⟩
 have e1 : w64 (Int.tdiv (i : Int) m.Symbols) = Int.tdiv (i : Int) m.Symbols := w64_in (by omega) (by omega)
 have e2 : w64 (m.Symbols + Int.tdiv (i : Int) m.Symbols) = m.Symbols + Int.tdiv (i : Int) m.Symbols := w64_in (by omega) (by omega)
 have g1 := inB9 (x := m.Symbols + Int.tdiv (i : Int) m.Symbols) (by omega) (by omega)
 have g2 := inB9 (x := Int.tmod (i : Int) m.Symbols) (by omega) (by omega)
 have g3 := inB9 (x := m.Symbols + m.States) (by omega) (by omega)
 have g4 := inB9 (x := m.Symbols + m.States + 1) (by omega) (by omega)
 unfold freeRw
 rw [e1, e2]
 cases decide (Int.tmod (i : Int) m.Symbols = 0) <;> simp only [cond_true, cond_false, List.all_append, List.all_cons, List.all_nil, goodRw, let9, g1, g2, g3, g4] <;> rfl
theorem haltL_good {m : GMachine} {s q : Nat} (hs : m.Symbols = s) (hq : m.States = q) (h5 : m.Symbols + m.States + 1 ≤ 5) (b1 : 2 ≤ s) (hl : m.Rules.length = q * s) (hr : ∀ r ∈ m.Rules, ruleB m.Symbols m.States r = true) : (haltL m s).all goodRw = true := by
 unfold haltL ownL
 rw [List.all_append, List.all_append, List.all_flatMap, List.all_flatMap, List.all_flatMap, Bool.and_eq_true, Bool.and_eq_true, List.all_eq_true, List.all_eq_true, List.all_eq_true]
 refine ⟨⟨fun i hi => ?_, fun i hi => ?_⟩, fun i hi => ?_⟩
 ·have hi' := List.mem_range.1 hi
  unfold ownRw
  by_cases hn : m.Rules.getD i noR = noR
  ·rw [decide_eq_true hn]; rfl
  ·rw [decide_eq_false hn, cond_false]
   have hm : m.Rules.getD i noR ∈ m.Rules := by
    rw [List.getD_eq_getElem?_getD, List.getElem?_eq_getElem hi']
    exact List.getElem_mem _
   have hb := hr _ hm
   unfold ruleB at hb
   rw [decide_eq_false hn, Bool.false_or, Bool.and_eq_true, Bool.and_eq_true] at hb
   have w1 := inB_iff.1 hb.1
   have w2 := inB_iff.1 hb.2.2
   exact rwOf_good (q := q) hs (by omega) (by omega) b1 ⟨by omega, by rw [← Int.natCast_mul]; omega⟩ w1 (by omega)
 ·have hi' := List.mem_range.1 hi
  cases isNo m i
  ·rfl
  ·exact freeRw_good hs hq h5 b1 (by omega)
 ·have hi' := List.mem_range.1 hi
  have g1 := inB9 (x := (i : Int)) (by omega) (by omega)
  have g4 := inB9 (x := m.Symbols + m.States + 1) (by omega) (by omega)
  simp only [eraseRw, List.all_cons, List.all_nil, goodRw, let9, g1, g4]
  rfl
theorem haltL_rews {m : GMachine} {s q : Nat} (hs : m.Symbols = s) (hq : m.States = q) (h5 : m.Symbols + m.States + 1 ≤ 5) (b1 : 2 ≤ s) (hl : m.Rules.length = q * s) (hr : ∀ r ∈ m.Rules, ruleB m.Symbols m.States r = true) (h60 : (haltL m s).length ≤ 60) : rewsB (haltL m s) = true := by
 have hg := haltL_good hs hq h5 b1 hl hr
 have hne : 1 ≤ (haltL m s).length := by
  unfold haltL
  rw [List.length_append]
  have : ((List.range s).flatMap (eraseRw m)).length = s * 2 := flat_const (eraseRw m) 2 (fun k => rfl) s
  omega
 unfold rewsB
 rw [decide_eq_true hne, decide_eq_true h60, Bool.true_and, Bool.true_and, List.all_eq_true]
 intro r hr'
 have h1 := List.all_eq_true.1 hg r hr'
 have h2 := rw_mem hr'
 unfold goodRw let9 at h1
 unfold rewB wordB
 simp only [Bool.and_eq_true, decide_eq_true_eq] at h1 ⊢
 exact ⟨⟨⟨by omega, h1.1.1⟩, ⟨by omega, h1.1.2⟩⟩, h1.2⟩
theorem haltW_word {m : GMachine} {c : GConfig} {s q : Nat} (hs : m.Symbols = s) (hq : m.States = q) (h5 : m.Symbols + m.States + 1 ≤ 5) (b1 : 2 ≤ s) (hc : confB m c = true) (h400 : (haltW m c).length ≤ 400) : wordB (haltW m c) = true := by
 unfold wordB
 rw [decide_eq_true h400, Bool.true_and]
 unfold confB sideB at hc
 simp only [Bool.and_eq_true] at hc
 have hst := inB_iff.1 hc.1
 have side : ∀ xs : List Int, (xs.all fun x => inB x 0 (m.Symbols - 1)) = true → (xs.all fun x => inB x 0 9) = true := fun xs h => by
  rw [List.all_eq_true] at h ⊢
  intro x hx
  have := inB_iff.1 (h x hx)
  exact inB9 (by omega) (by omega)
 have e1 : w64 (m.Symbols + c.State) = m.Symbols + c.State := w64_in (by omega) (by omega)
 have g1 := inB9 (x := m.Symbols + c.State) (by omega) (by omega)
 have g3 := inB9 (x := m.Symbols + m.States) (by omega) (by omega)
 unfold haltW
 rw [e1]
 simp only [List.all_append, List.all_cons, List.all_nil, List.all_reverse, side _ hc.2.1.1.2, side _ hc.2.2.1.2, g1, g3]
 rfl
theorem derW_all {rs : List GRewrite} : ∀ {ss : List (List Int)} {w : List Int}, (derW rs ss w).2 = 0 → ∀ s ∈ ss, s.length = 2
 | [], _, _, s, hs => by simp at hs
 | x :: ss, w, h, s, hs => by
  obtain ⟨h1, h2, h3⟩ := derW_cons h
  rcases List.mem_cons.1 hs with rfl | hs
  ·exact h1
  ·exact derW_all h3 s hs
def cntS (own : Int) (ss : List (List Int)) : Int := ss.foldl (fun n s => cond (decide (s.getD 0 0 < own)) (w64 (n + 1)) n) 0
theorem cnt_run {R : Type} {body : Int × Int → Option ((Int × Int) ⊕ Out (Int × Int) R)} (own : Int) (ss : List (List Int)) (hn : ss.length ≤ 1048576)
  (h1 : ∀ (n : Int) (i : Nat) (hi : i < ss.length), body (n, (i : Int)) = some (.inl (cond (decide (ss[i].getD 0 0 < own)) (w64 (n + 1)) n, w64 ((i : Int) + 1)))) (h2 : ∀ n, body (n, (ss.length : Int)) = some (.inr (.brk (n, (ss.length : Int))))) :
  run body (0, 0) = some (.brk (cntS own ss, (ss.length : Int))) := by
 have := (run_rowf (body := body) ss (by omega) (fun (a : Int) i => (a, i)) (fun n s => cond (decide (s.getD 0 0 < own)) (w64 (n + 1)) n) (fun _ _ => True) (fun i hi a _ => ⟨h1 a i hi, trivial⟩) 0 trivial).1
 rw [this]
 exact run_done (h2 _)
theorem rws_sml {rs : List GRewrite} (h : rewsB rs = true) : Sml rs := by
 have hl := rewsB_len h
 refine ⟨by omega, fun r hr => ?_⟩
 have := rewsB_mem h hr
 exact ⟨⟨by omega, fun _ _ => trivial⟩, ⟨by omega, fun _ _ => trivial⟩⟩
end Go.Fn
namespace Go.Fn
structure Gfound where
 move_rule : Int
 move_at_ : Int
 move_word : List Int
 parent : Int
end Go.Fn
namespace Go.Fn
open Go Go.Tc
def bl (a b : ByteArray) : Bool := Op.bytesLess a.toList b.toList
def keyB (x : Int) : Ik .u8 := ⟨wk .u8 x⟩
def keyW (w : List Int) : ByteArray := strOf (w.map keyB)
end Go.Fn
namespace Go.Fn
open Go Go.Tc
def posn (w f : List Int) : List Nat := (List.range (w.length + 1)).filter fun a => decide ((w.drop a).take f.length = f)
def newW (w : List Int) (r : GRewrite) (a : Nat) : List Int := putW w r.To a r.From.length
def tooB (w : List Int) (r : GRewrite) (a : Nat) : Bool := decide (400 < (newW w r a).length)
def mvK (w : List Int) (k : Nat) (r : GRewrite) : List Gmove := ((posn w r.From).filter fun a => !tooB w r a).map fun (a : Nat) => ⟨(k : Int), (a : Int), newW w r a⟩
def movesL (rs : List GRewrite) (w : List Int) : List Gmove := (List.range rs.length).flatMap fun k => mvK w k (rs.getD k zR)
end Go.Fn
namespace Go.Fn
open Go Go.Tc
def kF (f : Gfound) : ByteArray := keyW f.move_word
def toF (m : Gmove) (k : Nat) : Gfound := ⟨m.rule, m.at_, m.word, (k : Int)⟩
section
variable {R0 : Type} (K : List (List Int) → List Int → List (List Int) → R0)
end
section
variable {R0 : Type} (K : List (List Int) → List Int → List (List Int) → R0)
end
section
variable {R0 : Type} (K : List Gfound → List (ByteArray × Int) → R0)
def NumK (fs : List Gfound) (nums : List (ByteArray × Int)) : Prop := ∀ x, mget nums x = (fs.findIdx? fun f => decide (kF f = x)).map fun (i : Nat) => (i : Int)
theorem NumK.some {fs : List Gfound} {nums : List (ByteArray × Int)} (h : NumK fs nums) (x : ByteArray) : (mget nums x).isSome = true ↔ x ∈ fs.map kF := by
 rw [h x, Option.isSome_map, List.findIdx?_isSome, List.any_eq_true, List.mem_map]
 constructor
 ·rintro ⟨f, hf, he⟩
  exact ⟨f, hf, of_decide_eq_true he⟩
 ·rintro ⟨f, hf, he⟩
  exact ⟨f, hf, decide_eq_true he⟩
theorem NumK.add {fs : List Gfound} {nums : List (ByteArray × Int)} (h : NumK fs nums) {f : Gfound} (hx : ¬ kF f ∈ fs.map kF) : NumK (fs ++ [f]) (mput nums (kF f) (fs.length : Int)) := by
 intro y
 rw [mget_mput, List.findIdx?_append]
 by_cases e : kF f = y
 ·rw [if_pos e]
  have : fs.findIdx? (fun g => decide (kF g = y)) = none := by
   rw [List.findIdx?_eq_none_iff]
   intro g hg
   refine decide_eq_false fun e2 => hx ?_
   rw [e, ← e2]
   exact List.mem_map_of_mem hg
  rw [this]
  simp [e]
 ·rw [if_neg e, h y]
  cases hq : fs.findIdx? (fun g => decide (kF g = y)) <;> simp [e]
end
end Go.Fn
