/-
  Rows turned round and trimmed; the plain law of ConfigOfRow. No program in sight. No condition.
-/
import Derived.Test.YtabpcmbohmodnaaPMach
namespace Go.Fn
open Go Go.Tc
def trimL (xs : List Int) : List Int := (xs.reverse.dropWhile fun x => decide (x = 0)).reverse
theorem trimL_nil : trimL [] = [] := rfl
theorem trimL_snoc (ys : List Int) (y : Int) : trimL (ys ++ [y]) = if y = 0 then trimL ys else ys ++ [y] := by
  unfold trimL
  rw [List.reverse_append, List.reverse_singleton, List.singleton_append, List.dropWhile_cons]
  by_cases h : y = 0
  · rw [if_pos h, decide_eq_true h, if_pos rfl]
  · rw [if_neg h, decide_eq_false h, if_neg (by simp), List.reverse_cons, List.reverse_reverse]
theorem trimL_len (xs : List Int) : (trimL xs).length ≤ xs.length := by
  unfold trimL
  rw [List.length_reverse]
  have := (List.dropWhile_suffix (l := xs.reverse) (fun x => decide (x = 0))).length_le
  simpa using this
theorem snoc_cases {α : Type} (xs : List α) : xs = [] ∨ ∃ ys y, xs = ys ++ [y] := by
  rcases List.eq_nil_or_concat xs with h | ⟨ys, y, h⟩
  · exact .inl h
  · exact .inr ⟨ys, y, by simpa using h⟩
theorem idx_snoc {α : Type} (ys : List α) (y : α) (h : ys.length ≤ 1048576) : idx (ys ++ [y]) (w64 (((ys ++ [y]).length : Int) - 1)) = some y := by
  have e : w64 (((ys ++ [y]).length : Int) - 1) = (ys.length : Int) := by
    rw [List.length_append, List.length_singleton, w64_in (by omega) (by omega)]
    omega
  rw [e, idx_nat (by simp)]
  simp
theorem slc0 {α : Type} {xs : List α} {hi : Nat} (h : hi ≤ xs.length) : slc xs 0 (hi : Int) = some (xs.take hi) := by
  have := slc_ok (xs := xs) (lo := 0) (hi := hi) (Nat.zero_le _) h
  rw [List.drop_zero] at this
  exact this
theorem spec_own' (xs : List Int) (h : xs.length ≤ 1048576) : F_spec_l00Own xs = some xs := by
  unfold F_spec_l00Own
  rw [app_ok (by simp; omega)]
  rfl
theorem impl_clone' (xs : List Int) (h : xs.length ≤ 1048576) : F_slices_Clone_Sint64_int64 xs = some xs := by
  unfold F_slices_Clone_Sint64_int64
  rw [app_ok (by simp; omega)]
  rfl
/-- A loop that goes down while the datum ahead is zero. -/
theorem run_trim {body : Int → Option (Int ⊕ Out Int (List Int))} (xs : List Int) (h : xs.length ≤ 1048576) (h0 : body 0 = some (.inr (.brk 0)))
    (h1 : ∀ (n : Nat) (hn : n < xs.length), body ((n : Int) + 1) = cond (decide (xs[n] = 0)) (some (.inl (n : Int))) (some (.inr (.brk ((n : Int) + 1))))) :
    ∀ n : Nat, n ≤ xs.length → ∃ k : Nat, k ≤ xs.length ∧ run body (n : Int) = some (.brk (k : Int)) ∧ xs.take k = trimL (xs.take n)
  | 0, _ => ⟨0, Nat.zero_le _, run_done h0, by simp [trimL_nil]⟩
  | n + 1, hn => by
    have hlt : n < xs.length := by omega
    have et : xs.take (n + 1) = xs.take n ++ [xs[n]] := (List.take_append_getElem hlt).symm
    rw [et, trimL_snoc]
    by_cases hz : xs[n] = 0
    · obtain ⟨k, hk, hr, e⟩ := run_trim xs h h0 h1 n (by omega)
      refine ⟨k, hk, ?_, by rw [if_pos hz]; exact e⟩
      rw [Int.natCast_add, Int.natCast_one, run_next (by rw [h1 n hlt, decide_eq_true hz]; rfl)]
      exact hr
    · refine ⟨n + 1, hn, ?_, by rw [if_neg hz, et]⟩
      rw [Int.natCast_add, Int.natCast_one, run_done (by rw [h1 n hlt, decide_eq_false hz]; rfl)]
theorem spec_trim (xs : List Int) (h : xs.length ≤ 1048576) : F_spec_l05Trim xs = some (trimL xs) := by
  unfold F_spec_l05Trim
  obtain ⟨k, hk, hr, e⟩ := run_trim (body := F_spec_l05Trim_L1 xs) xs h rfl (fun n hn => by
    have e : w64 ((n : Int) + 1 - 1) = (n : Int) := by rw [Int.add_sub_cancel]; exact w64_nat (by omega)
    simp only [F_spec_l05Trim_L1]
    rw [decide_eq_true (by omega), cond_true, e, idx_nat hn, bnd_some_eq]) xs.length (Nat.le_refl _)
  rw [hr]
  simp only [bnd_some_eq, Out.elim]
  rw [slc0 hk, bnd_some_eq, spec_own' _ (by rw [List.length_take]; omega), e, List.take_length]
  rfl
theorem run_reverse {body : List Int × Int → Option ((List Int × Int) ⊕ Out (List Int × Int) (List Int))} (xs : List Int) (h : xs.length ≤ 1048576)
    (h0 : ∀ a, body (a, -1) = some (.inr (.brk (a, -1)))) (h1 : ∀ (a : List Int) (n : Nat) (hn : n < xs.length), a.length ≤ 1048576 → body (a, (n : Int)) = some (.inl (a ++ [xs[n]], (n : Int) - 1))) :
    ∀ (n : Nat) (a : List Int), n ≤ xs.length → a.length + n ≤ xs.length → run body (a, (n : Int) - 1) = some (.brk (a ++ (xs.take n).reverse, -1))
  | 0, a, _, _ => by
    rw [show ((0 : Nat) : Int) - 1 = -1 from rfl, run_done (h0 a)]
    simp
  | n + 1, a, hn, ha => by
    have hlt : n < xs.length := by omega
    have et : xs.take (n + 1) = xs.take n ++ [xs[n]] := (List.take_append_getElem hlt).symm
    rw [show (((n + 1 : Nat) : Int) - 1) = (n : Int) by omega, run_next (h1 a n hlt (by omega)), run_reverse xs h h0 h1 n _ (by omega) (by simp; omega), et, List.reverse_append, List.append_assoc]
    rfl
theorem impl_reversed (xs : List Int) (h : xs.length ≤ 1048576) : F_impl_reversed xs = some xs.reverse := by
  unfold F_impl_reversed
  rw [impl_clone' xs h, bnd_some_eq, w64_in (by omega) (by omega)]
  obtain ⟨o, ho, i, j, rfl⟩ := run_inv (body := F_impl_reversed_L1) (fun s => ∃ n : Nat, s.2.1 = n ∧ s.2.2 = (xs.length : Int) - 1 - n ∧ 2 * n ≤ xs.length ∧ s.1.length = xs.length ∧ ∀ k, k < xs.length → s.1[k]? = if k < n ∨ xs.length ≤ k + n then xs[xs.length - 1 - k]? else xs[k]?)
    (fun o => ∃ i j, o = .brk (xs.reverse, i, j)) (fun s => (s.2.2 - s.2.1 + 1).toNat) (by
      rintro ⟨a, i, j⟩ ⟨n, rfl, rfl, h2, hl, hk⟩
      simp only at hl hk
      by_cases hc : n + n + 1 < xs.length
      · left
        have hj : (xs.length : Int) - 1 - n = ((xs.length - 1 - n : Nat) : Int) := by omega
        have hjn : xs.length - 1 - n < a.length := by omega
        have hnn : n < a.length := by omega
        have aj : a[xs.length - 1 - n]? = xs[xs.length - 1 - n]? := by rw [hk _ (by omega), if_neg (by omega)]
        have an : a[n]? = xs[n]? := by rw [hk _ (by omega), if_neg (by omega)]
        refine ⟨((a.set n a[xs.length - 1 - n]).set (xs.length - 1 - n) a[n], ((n + 1 : Nat) : Int), (xs.length : Int) - 1 - ((n + 1 : Nat) : Int)), ?_, ⟨n + 1, rfl, rfl, by omega, by simpa using hl, ?_⟩, ?_⟩
        · simp only [F_impl_reversed_L1]
          rw [decide_eq_true (by omega), cond_true, hj, idx_nat hjn, bnd_some_eq, idx_nat hnn, bnd_some_eq, bnd_some_eq, idx_nat (by simpa using hjn), bnd_some_eq, w64_nat1 (by omega), w64_in (by omega) (by omega)]
          simp only [Int.toNat_natCast]
          congr 4
          omega
        · intro k hkl
          have hset : (((a.set n a[xs.length - 1 - n]).set (xs.length - 1 - n) a[n])[k]?) = if k = xs.length - 1 - n then a[n]? else if k = n then a[xs.length - 1 - n]? else a[k]? := by
            rw [List.getElem?_set, List.getElem?_set, List.length_set]
            by_cases e1 : xs.length - 1 - n = k
            · rw [if_pos e1, if_pos hjn, if_pos e1.symm, List.getElem?_eq_getElem hnn]
            · rw [if_neg e1]
              by_cases e2 : n = k
              · rw [if_pos e2, if_pos (by omega), if_neg (fun e => e1 e.symm), if_pos e2.symm, List.getElem?_eq_getElem hjn]
              · rw [if_neg e2, if_neg (fun e => e1 e.symm), if_neg (fun e => e2 e.symm)]
          rw [hset]
          by_cases e1 : k = xs.length - 1 - n
          · rw [if_pos e1, if_pos (by omega), an]
            congr 1
            omega
          · rw [if_neg e1]
            by_cases e2 : k = n
            · rw [if_pos e2, if_pos (by omega), aj, e2]
            · rw [if_neg e2, hk k hkl]
              by_cases c : k < n ∨ xs.length ≤ k + n
              · rw [if_pos c, if_pos (by omega)]
              · rw [if_neg c, if_neg (by omega)]
        · show ((xs.length : Int) - 1 - ((n + 1 : Nat) : Int) - ((n + 1 : Nat) : Int) + 1).toNat < ((xs.length : Int) - 1 - n - n + 1).toNat
          omega
      · right
        refine ⟨.brk (xs.reverse, (n : Int), (xs.length : Int) - 1 - n), ?_, _, _, rfl⟩
        have ha : a = xs.reverse := by
          apply List.ext_getElem?
          intro k
          by_cases hkl : k < xs.length
          · rw [hk k hkl, List.getElem?_reverse hkl]
            by_cases c : k < n ∨ xs.length ≤ k + n
            · rw [if_pos c]
            · rw [if_neg c]
              congr 1
              omega
          · rw [List.getElem?_eq_none (by omega), List.getElem?_eq_none (by simp; omega)]
        simp only [F_impl_reversed_L1]
        rw [decide_eq_false (by omega), cond_false, ha]) (xs, 0, (xs.length : Int) - 1) ⟨0, rfl, by simp, by omega, rfl, fun k hk => by rw [if_neg (by omega)]⟩
  rw [ho]
  rfl
def zC : GConfig := ⟨0, [], []⟩
/-- What a row with a head at k stands for. -/
def confR (m : GMachine) (row : List Int) (k : Nat) : GConfig × Int × Int :=
  (⟨w64 ((w64 (Int.tdiv (row.getD k 0) m.Symbols)) - 1), trimL (row.take k).reverse, trimL (Int.tmod (row.getD k 0) m.Symbols :: row.drop (k + 1))⟩, (k : Int), 0)
def okR (m : GMachine) (row : List Int) (k : Nat) : Bool :=
  decide (row.getD k 0 < m.Symbols * (m.States + 1)) && ((row.take k).all fun x => inB x 0 (m.Symbols - 1)) && ((row.drop (k + 1)).all fun x => inB x 0 (m.Symbols - 1))
def confP (m : GMachine) (row : List Int) : GConfig × Int × Int :=
  match row.findIdx? fun x => decide (m.Symbols ≤ x) with
  | none => (zC, 0, 9)
  | some k => cond (okR m row k) (confR m row k) (zC, 0, 9)
theorem sq1 {m : GMachine} {s q : Nat} (hs : m.Symbols = s) (hq : m.States = q) (b2 : s ≤ 6) (b4 : q ≤ 1000) (b5 : q * s ≤ 6000) : w64 (m.Symbols * (w64 (m.States + 1))) = m.Symbols * (m.States + 1) ∧ 0 ≤ m.Symbols * (m.States + 1) ∧ m.Symbols * (m.States + 1) ≤ 10000 := by
  have e : m.Symbols * (m.States + 1) = ((s * (q + 1) : Nat) : Int) := by rw [hs, hq, Int.natCast_mul]; rfl
  have e2 : s * (q + 1) = q * s + s := by rw [Nat.mul_add, Nat.mul_comm s q, Nat.mul_one]
  have e3 : w64 (m.States + 1) = m.States + 1 := w64_in (by omega) (by omega)
  rw [e3, e, e2]
  exact ⟨w64_in (by omega) (by omega), by omega, by omega⟩
theorem inB_false {x lo hi : Int} (h : ¬ (lo ≤ x ∧ x ≤ hi)) : inB x lo hi = false := by
  cases e : inB x lo hi
  · rfl
  · exact absurd (inB_iff.1 e) h
theorem conf_fit {c : GConfig} (h1 : c.Left.length ≤ 1048576) (h2 : c.Right.length ≤ 1048576) : Med c ∧ Cnt.cnt c.Left + Cnt.cnt c.Right ≤ 1152921504606846976 :=
  ⟨⟨⟨by omega, fun _ _ => trivial⟩, ⟨by omega, fun _ _ => trivial⟩⟩, by rw [cnt_ints, cnt_ints]; omega⟩
theorem confP_fit (m : GMachine) (row : List Int) (h : row.length ≤ 1000) : (confP m row).1.Left.length ≤ 1048576 ∧ (confP m row).1.Right.length ≤ 1048576 := by
  unfold confP
  cases row.findIdx? fun x => decide (m.Symbols ≤ x) with
  | none => exact ⟨Nat.zero_le _, Nat.zero_le _⟩
  | some k =>
    simp only
    cases okR m row k
    · exact ⟨Nat.zero_le _, Nat.zero_le _⟩
    · have t1 := trimL_len (row.take k).reverse
      have t2 := trimL_len (Int.tmod (row.getD k 0) m.Symbols :: row.drop (k + 1))
      rw [List.length_reverse, List.length_take] at t1
      rw [List.length_cons, List.length_drop] at t2
      exact ⟨by show (trimL _).length ≤ _; omega, by show (trimL _).length ≤ _; omega⟩
theorem confP_code (m : GMachine) (row : List Int) : (confP m row).2.2 = 0 ∨ confP m row = (zC, 0, 9) := by
  unfold confP
  cases row.findIdx? fun x => decide (m.Symbols ≤ x) with
  | none => exact .inr rfl
  | some k =>
    simp only
    cases okR m row k
    · exact .inr rfl
    · exact .inl rfl
end Go.Fn
