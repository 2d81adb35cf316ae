/-
  A machine's row stands for its configuration; the tops of its rows are its run's. No program in sight. No condition.
-/
import Derived.Test.YtgojoooilijiiaaPTilR
import Derived.Test.YtgojoooilijiiaaPRunT
import Derived.Test.YtgojoooilijiiaaPMir
namespace Go.Fn
open Go Go.Tc
theorem trim_zeros (xs : List Int) : ∀ k : Nat, trimL (xs ++ List.replicate k 0) = trimL xs
  | 0 => by rw [List.replicate_zero, List.append_nil]
  | k + 1 => by rw [List.replicate_succ', ← List.append_assoc, trimL_snoc, if_pos rfl, trim_zeros xs k]
theorem pad_trim {xs : List Int} (h : Tm xs) {n : Nat} (hn : xs.length ≤ n) : trimL ((List.range n).map fun i => xs.getD i 0) = xs := by
  have e : ((List.range n).map fun i => xs.getD i 0) = xs ++ List.replicate (n - xs.length) 0 := by
    apply List.ext_getElem?
    intro i
    rw [List.getElem?_map]
    by_cases hi : i < n
    · rw [List.getElem?_eq_getElem (by simpa using hi), List.getElem_range, Option.map_some]
      by_cases hx : i < xs.length
      · rw [List.getElem?_append_left hx, List.getElem?_eq_getElem hx, List.getD_eq_getElem?_getD, List.getElem?_eq_getElem hx]
        rfl
      · rw [List.getElem?_append_right (by omega), List.getElem?_replicate, if_pos (by omega), List.getD_eq_getElem?_getD, List.getElem?_eq_none (by omega)]
        rfl
    · rw [List.getElem?_eq_none (by simpa using hi), List.getElem?_eq_none (by simp; omega)]
      rfl
  rw [e, trim_zeros]
  exact h
/-- A configuration that fits into so many places. -/
structure FitC (s q W A : Nat) (c : GConfig) : Prop where
  cf : CfT s q c
  hA : A < W
  hl : c.Left.length ≤ A
  hr : c.Right.length ≤ W - A
theorem FitC.step {m : GMachine} {s q W A B : Nat} (M : MaI m s q) {c : GConfig} (h : FitC s q W A c) (hW : W ≤ 30) (hn : ruleAt m c ≠ noR) (hB : (B : Int) = A + (ruleAt m c).Move) (hBW : B < W) : FitC s q W B (stepC (ruleAt m c) c) ∧ small (stepC (ruleAt m c) c) = true := by
  obtain ⟨_, hm, _⟩ := rule_in M (ruleAt_idx M h.cf.cf).2 hn
  have h1 := h.hl
  have h2 := h.hr
  have h3 := h.hA
  have hlen : (stepC (ruleAt m c) c).Left.length ≤ B ∧ (stepC (ruleAt m c) c).Right.length ≤ W - B := by
    unfold stepC
    rcases hm with hm | hm
    · rw [if_pos (by omega)]
      have := trimL_len ((ruleAt m c).Write :: c.Left)
      simp only [List.length_cons, List.length_tail] at this ⊢
      omega
    · rw [if_neg (by omega)]
      have k1 := trimL_len ((ruleAt m c).Write :: c.Right.tail)
      have k2 := trimL_len (c.Left.getD 0 0 :: trimL ((ruleAt m c).Write :: c.Right.tail))
      simp only [List.length_cons, List.length_tail] at k1 k2 ⊢
      omega
  have hs : small (stepC (ruleAt m c) c) = true := by
    unfold small
    rw [decide_eq_true (by omega), decide_eq_true (by omega)]
    rfl
  exact ⟨⟨h.cf.step M hn hs, hBW, hlen.1, hlen.2⟩, hs⟩
theorem find_first {α : Type} {p : α → Bool} : ∀ {xs : List α} {k : Nat} (hk : k < xs.length), p xs[k] = true → (∀ j (hj : j < k), p (xs[j]'(by omega)) = false) → xs.findIdx? p = some k := by
  intro xs k hk h1 h2
  rw [List.findIdx?_eq_some_iff_getElem]
  exact ⟨hk, h1, fun j hj => by rw [h2 j hj]; simp⟩
/-- A row stands for its configuration. -/
theorem confP_bot {m : GMachine} {s q W A : Nat} (M : MaI m s q) {c : GConfig} (h : FitC s q W A c) : confP m (botR m c W A) = (c, (A : Int), 0) := by
  have hA := h.hA
  have b1 := M.b1
  have b2 := M.b2
  have b4 := M.b4
  obtain ⟨p, a, hp, ha, hpq, has, _, _⟩ := at_eq M h.cf.cf
  have hlen : (botR m c W A).length = W := by unfold botR; rw [List.length_set, rowC_len]
  have hga : (rowC c W A).getD A 0 = a := by rw [rowC_getD c hA, if_neg (by omega), Nat.sub_self, ha]
  have hhead : (botR m c W A).getD A 0 = ((s * (p + 1) + a : Nat) : Int) := by
    rw [botR_getD m c hA hA, if_pos rfl, hga, hp, headC_eq M.hs M.b2 M.b4 hpq has]
  have hoth : ∀ x, x < W → x ≠ A → 0 ≤ (botR m c W A).getD x 0 ∧ (botR m c W A).getD x 0 < s := by
    intro x hx hne
    rw [botR_getD m c hA hx, if_neg hne]
    exact h.cf.cf.row hx
  have hget : ∀ x (hx : x < W), (botR m c W A)[x]'(by rw [hlen]; exact hx) = (botR m c W A).getD x 0 := fun x hx => get_getD (by rw [hlen]; exact hx)
  have hmul : s * (p + 1) = s * p + s := Nat.mul_succ s p
  have hmul2 : s * (p + 1) ≤ s * q := Nat.mul_le_mul_left s hpq
  have hf : (botR m c W A).findIdx? (fun x => decide (m.Symbols ≤ x)) = some A := by
    refine find_first (by rw [hlen]; exact hA) ?_ ?_
    · rw [hget A hA, hhead, M.hs]
      exact decide_eq_true (by omega)
    · intro j hj
      rw [hget j (by omega), M.hs]
      have := hoth j (by omega) (by omega)
      exact decide_eq_false (by omega)
  have hok : okR m (botR m c W A) A = true := by
    unfold okR
    have hM : (((s * (p + 1) + a : Nat) : Int)) < m.Symbols * (m.States + 1) := by
      rw [M.hs, M.hq]
      have : (s : Int) * ((q : Int) + 1) = ((s * (q + 1) : Nat) : Int) := by rw [Int.natCast_mul]; rfl
      rw [this]
      have h3 : s * (q + 1) = s * q + s := Nat.mul_succ s q
      omega
    rw [hhead, decide_eq_true hM, Bool.true_and, Bool.and_eq_true]
    constructor
    · rw [List.all_eq_true]
      intro x hx
      obtain ⟨j, hj, rfl⟩ := List.mem_iff_getElem.1 hx
      have hj' : j < A := by rw [List.length_take] at hj; omega
      rw [List.getElem_take, hget j (by omega)]
      have := hoth j (by omega) (by omega)
      have := M.hs
      exact inB_iff.2 (by omega)
    · rw [List.all_eq_true]
      intro x hx
      obtain ⟨j, hj, rfl⟩ := List.mem_iff_getElem.1 hx
      have hj' : A + 1 + j < W := by rw [List.length_drop, hlen] at hj; omega
      rw [List.getElem_drop, hget (A + 1 + j) hj']
      have := hoth (A + 1 + j) hj' (by omega)
      have := M.hs
      exact inB_iff.2 (by omega)
  have hleft : trimL ((botR m c W A).take A).reverse = c.Left := by
    have e : ((botR m c W A).take A).reverse = (List.range A).map fun i => c.Left.getD i 0 := by
      rw [← List.reverse_inj, List.reverse_reverse]
      apply List.ext_getElem
      · simp [hlen]
        omega
      · intro i h1 h2
        have hi : i < A := by rw [List.length_take] at h1; omega
        rw [List.getElem_take, hget i (by omega), botR_getD m c hA (by omega), if_neg (by omega), rowC_getD c (by omega), if_pos hi, List.getElem_reverse, List.getElem_map, List.getElem_range]
        simp only [List.length_map, List.length_range]
    rw [e]
    exact pad_trim h.cf.lt h.hl
  have hright : trimL ((a : Int) :: (botR m c W A).drop (A + 1)) = c.Right := by
    have e : (a : Int) :: (botR m c W A).drop (A + 1) = (List.range (W - A)).map fun i => c.Right.getD i 0 := by
      apply List.ext_getElem
      · simp [hlen]
        omega
      · intro i h1 h2
        rw [List.getElem_map, List.getElem_range]
        cases i with
        | zero =>
          rw [List.getElem_cons_zero, ha]
        | succ i =>
          have hi : A + 1 + i < W := by
            simp only [List.length_cons, List.length_drop, hlen] at h1
            omega
          rw [List.getElem_cons_succ, List.getElem_drop, hget (A + 1 + i) hi, botR_getD m c hA hi, if_neg (by omega), rowC_getD c hi, if_neg (by omega), show A + 1 + i - A = i + 1 by omega]
    rw [e]
    exact pad_trim h.cf.rt h.hr
  unfold confP
  rw [hf]
  simp only
  rw [hok, cond_true]
  unfold confR
  rw [hhead, M.hs]
  have hd : Int.tdiv ((s * (p + 1) + a : Nat) : Int) (s : Int) = ((p + 1 : Nat) : Int) := by
    rw [Int.tdiv_eq_ediv_of_nonneg (by omega)]
    have : (s * (p + 1) + a) / s = p + 1 := by rw [Nat.mul_add_div (by omega), Nat.div_eq_of_lt has, Nat.add_zero]
    omega
  have hmod : Int.tmod ((s * (p + 1) + a : Nat) : Int) (s : Int) = (a : Int) := by
    rw [Int.tmod_eq_emod_of_nonneg (by omega)]
    have : (s * (p + 1) + a) % s = a := by rw [Nat.mul_add_mod, Nat.mod_eq_of_lt has]
    omega
  rw [hd, hmod, hleft, hright, w64_in (n := ((p + 1 : Nat) : Int)) (by omega) (by omega), w64_in (by omega) (by omega), show ((p + 1 : Nat) : Int) - 1 = c.State by rw [hp]; omega]
theorem rowGo_all {ts : List GTile} {bs rs tops : List Int} {f : Nat → GTile} {W : Nat} (hb : bs.length = W) (hr : rs.length = W) (ht : tops.length = W)
    (h : ∀ x, x < W → idx ts (rs.getD x 0) = some (f x) ∧ (f x).Bottom = bs.getD x 0 ∧ (f x).Top = tops.getD x 0) (hl : ∀ x, (if 0 < x then (f (x - 1)).Right else 0) = (f x).Left) (hlast : ∀ x, x + 1 = W → (f x).Right = 0) (hW : 0 < W) : rowM ts bs rs = some tops := by
  have key : ∀ (k x : Nat), x + k = W → rowGo ts (bs.drop x) (rs.drop x) (if 0 < x then (f (x - 1)).Right else 0) = some (tops.drop x, 0) := by
    intro k
    induction k with
    | zero =>
      intro x hx
      have : x = W := by omega
      subst this
      rw [List.drop_of_length_le (by omega), List.drop_of_length_le (by omega), List.drop_of_length_le (by omega), if_pos hW, hlast (x - 1) (by omega)]
      rfl
    | succ k ih =>
      intro x hx
      obtain ⟨h1, h2, h3⟩ := h x (by omega)
      have := ih (x + 1) (by omega)
      rw [if_pos (by omega), Nat.add_sub_cancel] at this
      rw [List.drop_eq_getElem_cons (l := bs) (by omega), List.drop_eq_getElem_cons (l := rs) (by omega), List.drop_eq_getElem_cons (l := tops) (by omega), get_getD (xs := bs) (by omega), get_getD (xs := rs) (by omega), get_getD (xs := tops) (by omega)]
      unfold rowGo
      rw [h1]
      simp only
      rw [if_pos ⟨(hl x).symm, h2⟩, this, h3]
      rfl
  have := key W 0 (by omega)
  rw [List.drop_zero, List.drop_zero, List.drop_zero, if_neg (by omega)] at this
  unfold rowM
  rw [this]
  rfl
/-- Rows that stand for configurations, one by one. -/
def topsOk (m : GMachine) (s q W : Nat) : List (List Int) → List GConfig → Prop
  | [], [] => True
  | t :: ts, x :: xs => (∃ B, t = botR m x W B ∧ FitC s q W B x) ∧ topsOk m s q W ts xs
  | _, _ => False
/-- The run is traced by the tops of its rows. -/
theorem run_tops {m : GMachine} {s q W : Nat} (M : MaI m s q) (hW : W ≤ 30) : ∀ (k A : Nat) (c : GConfig) (out : List (List Int)), FitC s q W A c → (goT m (tilesM m s q) W k A c out).2 = 0 →
    ∃ news tl l, (goT m (tilesM m s q) W k A c out).1 = out ++ news ∧ news.length = k ∧ (∀ r ∈ news, r.length = W) ∧ topsM (tilesM m s q) (botR m c W A) news = some tl ∧ traceM m k c = some (c :: l) ∧ l.length = k ∧ topsOk m s q W tl l := by
  intro k
  induction k with
  | zero =>
    intro A c out h _
    exact ⟨[], [], [], by simp [goT], rfl, by simp, rfl, rfl, rfl, trivial⟩
  | succ k ih =>
    intro A c out h h0
    have hA := h.hA
    have b4 := M.b4
    by_cases hbad : ruleAt m c = noR ∨ ¬ (0 ≤ (A : Int) + (ruleAt m c).Move ∧ (A : Int) + (ruleAt m c).Move ≤ W - 1)
    · rw [goT_stop hbad] at h0
      exact absurd h0 (by decide)
    have hn : ruleAt m c ≠ noR := fun e => hbad (.inl e)
    have hin : 0 ≤ (A : Int) + (ruleAt m c).Move ∧ (A : Int) + (ruleAt m c).Move ≤ W - 1 := Classical.not_not.1 fun e => hbad (.inr e)
    obtain ⟨w1, hm, w3⟩ := rule_in M (ruleAt_idx M h.cf.cf).2 hn
    obtain ⟨B, hB⟩ : ∃ B : Nat, (B : Int) = A + (ruleAt m c).Move := ⟨((A : Int) + (ruleAt m c).Move).toNat, by omega⟩
    have hBW : B < W := by omega
    rw [goT_next hn hB hBW] at h0 ⊢
    obtain ⟨hf, hs⟩ := h.step M hW hn hB hBW
    obtain ⟨news, tl, l, e1, e2, e3, e4, e5, e6, e7⟩ := ih B (stepC (ruleAt m c) c) _ hf h0
    obtain ⟨p, a, hp, ha, hpq, has, _, _⟩ := at_eq M h.cf.cf
    have hga : (rowC c W A).getD A 0 = a := by rw [rowC_getD c hA, if_neg (by omega), Nat.sub_self, ha]
    have lrow : (rowTl m (tilesM m s q) (ruleAt m c) c W A).length = W := by simp [rowTl]
    have hrow : rowM (tilesM m s q) (botR m c W A) (rowTl m (tilesM m s q) (ruleAt m c) c W A) = some (botR m (stepC (ruleAt m c) c) W B) := by
      refine rowGo_all (W := W) (f := tileR m (ruleAt m c) c W A p a) (by unfold botR; rw [List.length_set, rowC_len]) lrow (by unfold botR; rw [List.length_set, rowC_len]) (fun x hx => ⟨?_, tileR_bot hA hp hga hx, tileR_top hm hA hB hBW hx⟩) (tileR_left hm hB) (fun x hx => tileR_last hm hA hB hBW hx) (by omega)
      have hmem := tileA_mem (A := A) M h.cf.cf hn hx
      rw [tileA_eq (by omega) hp hga] at hmem
      obtain ⟨i, hi, g1, g2⟩ := tAt_ix hmem
      have : (rowTl m (tilesM m s q) (ruleAt m c) c W A).getD x 0 = (i : Int) := by
        rw [List.getD_eq_getElem?_getD, List.getElem?_eq_getElem (by rw [lrow]; exact hx)]
        unfold rowTl
        rw [List.getElem_map, List.getElem_range, tileA_eq (by omega) hp hga]
        exact g1
      rw [this, idx_nat hi, ← g2, List.getD_eq_getElem?_getD, List.getElem?_eq_getElem hi]
      rfl
    refine ⟨rowTl m (tilesM m s q) (ruleAt m c) c W A :: news, botR m (stepC (ruleAt m c) c) W B :: tl, stepC (ruleAt m c) c :: l, ?_, by rw [List.length_cons, e2], ?_, ?_, ?_, by rw [List.length_cons, e6], ⟨B, rfl, hf⟩, e7⟩
    · rw [e1, List.append_assoc]
      rfl
    · intro r hr
      rcases List.mem_cons.1 hr with rfl | hr
      · exact lrow
      · exact e3 r hr
    · unfold topsM
      rw [hrow]
      simp only [Option.bind_some]
      rw [e4]
      rfl
    · unfold traceM
      rw [if_neg hn, if_pos hs, e5]
      rfl
end Go.Fn
