/-
  The tilings over a machine's row are its run, row by row. No program in sight. No condition.
-/
import Derived.Test.YtgojoooilijiiaaPTilM
namespace Go.Fn
open Go Go.Tc
theorem row_step {m : GMachine} {s q : Nat} {bs P : List Int} {c : GConfig} {A p a : Nat} (R : RowI m s q bs P c A p a) {f : Nat → GTile} {x : Nat} (hx : x < bs.length)
    (hm : ∀ i, i ≤ x → f i ∈ tilesM m s q) (hl : (if 0 < x then (f (x - 1)).Right else 0) = (f x).Left) (hb : (f x).Bottom = underR (tilesM m s q) bs P x) (hr : x + 1 = bs.length → (f x).Right = 0) (n : Nat)
    (ho : ∀ t ∈ tilesM m s q, t ≠ f x → t.Left = (f x).Left → t.Bottom = underR (tilesM m s q) bs P x → (x + 1 = bs.length → t.Right = 0) → x + 1 < bs.length ∧ ∀ cur : List Int, cur.length = x + 1 → leftR (tilesM m s q) cur = t.Right → deadT (tilesM m s q) bs (P ++ cur)) :
    solsT (tilesM m s q) bs (n + (bs.length - x)) (P ++ curR m s q f x) = solsT (tilesM m s q) bs (n + (bs.length - (x + 1))) (P ++ curR m s q f (x + 1)) ∧
      costT (tilesM m s q) bs (n + (bs.length - x)) (P ++ curR m s q f x) ≤ (tilesM m s q).length + costT (tilesM m s q) bs (n + (bs.length - (x + 1))) (P ++ curR m s q f (x + 1)) := by
  obtain ⟨y, hP⟩ := R.y
  have hlen := curR_len m s q f x
  have hleft : leftR (tilesM m s q) (curR m s q f x) = (f x).Left := by
    rw [curR_left (fun i hi => hm i (by omega)), hl]
  obtain ⟨i0, hi0, e1, e2⟩ := tAt_ix (hm x (Nat.le_refl _))
  have hf : fitB (tilesM m s q) bs (P ++ curR m s q f x) i0 = true := by
    rw [fit_at hP (by omega), e2, hleft, hlen, hb]
    exact ⟨rfl, rfl, hr⟩
  have hstep := one_sols (n := n + (bs.length - (x + 1))) hi0 hf (fun i hi hne hfi => by
    obtain ⟨h1, h2, h3⟩ := (fit_at hP (by omega) i).1 hfi
    rw [hleft] at h1
    rw [hlen] at h2 h3
    have hne' : (tilesM m s q).getD i zT ≠ f x := fun e => hne (ix_uniq (tiles_nodup R.M.hs R.M.b1 R.M.b2 R.M.b4) hi hi0 (by rw [e, e2]))
    obtain ⟨g1, g2⟩ := ho _ (getD_mem hi) hne' h1 h2 h3
    have hd := g2 (curR m s q f x ++ [(i : Int)]) (by rw [List.length_append, List.length_singleton, hlen]) (leftR_snoc _ _ _)
    have := dead_sols hd (n + (bs.length - (x + 1)) - 1)
    rw [show n + (bs.length - (x + 1)) - 1 + 1 = n + (bs.length - (x + 1)) by omega, ← List.append_assoc] at this
    exact this)
  rw [curR_succ, e1, ← List.append_assoc, show n + (bs.length - x) = n + (bs.length - (x + 1)) + 1 by omega]
  exact hstep
theorem row_all {m : GMachine} {s q : Nat} {bs P : List Int} {f : Nat → GTile} {n : Nat}
    (hs : ∀ x, x < bs.length → solsT (tilesM m s q) bs (n + (bs.length - x)) (P ++ curR m s q f x) = solsT (tilesM m s q) bs (n + (bs.length - (x + 1))) (P ++ curR m s q f (x + 1)) ∧
      costT (tilesM m s q) bs (n + (bs.length - x)) (P ++ curR m s q f x) ≤ (tilesM m s q).length + costT (tilesM m s q) bs (n + (bs.length - (x + 1))) (P ++ curR m s q f (x + 1))) : ∀ (k x : Nat), x + k = bs.length →
    solsT (tilesM m s q) bs (n + k) (P ++ curR m s q f x) = solsT (tilesM m s q) bs n (P ++ curR m s q f bs.length) ∧ costT (tilesM m s q) bs (n + k) (P ++ curR m s q f x) ≤ k * (tilesM m s q).length + costT (tilesM m s q) bs n (P ++ curR m s q f bs.length) := by
  intro k
  induction k with
  | zero =>
    intro x hx
    have : x = bs.length := by omega
    subst this
    exact ⟨rfl, by rw [Nat.zero_mul, Nat.zero_add]; exact Nat.le_refl _⟩
  | succ k ih =>
    intro x hx
    have h1 := hs x (by omega)
    have h2 := ih (x + 1) (by omega)
    rw [show bs.length - x = k + 1 by omega, show bs.length - (x + 1) = k by omega] at h1
    refine ⟨h1.1.trans h2.1, Nat.le_trans h1.2 ?_⟩
    rw [Nat.succ_mul]
    omega
def tileR (m : GMachine) (r : GRule) (c : GConfig) (W A p a x : Nat) : GTile :=
  if x = A then (if r.Move = 1 then ⟨0, headC m p a, 1 + 2 * r.Next, r.Write⟩ else ⟨2 + 2 * r.Next, headC m p a, 0, r.Write⟩)
  else if (x : Int) = A + r.Move then (if r.Move = 1 then ⟨1 + 2 * r.Next, (rowC c W A).getD x 0, 0, headC m r.Next ((rowC c W A).getD x 0)⟩ else ⟨0, (rowC c W A).getD x 0, 2 + 2 * r.Next, headC m r.Next ((rowC c W A).getD x 0)⟩)
  else ⟨0, (rowC c W A).getD x 0, 0, (rowC c W A).getD x 0⟩
theorem tileA_eq {m : GMachine} {r : GRule} {c : GConfig} {W A p a x : Nat} (hN : 0 ≤ r.Next ∧ r.Next < 100000) (hp : c.State = p) (ha : (rowC c W A).getD A 0 = a) : tileA m r c W A x = tileR m r c W A p a x := by
  unfold tileA tileR
  rw [w64_in (n := 2 * r.Next) (by omega) (by omega), w64_in (n := 1 + 2 * r.Next) (by omega) (by omega), w64_in (n := 2 + 2 * r.Next) (by omega) (by omega)]
  by_cases h : x = A
  · rw [if_pos h, if_pos h, h, ha, hp]
    by_cases h1 : r.Move = 1
    · rw [decide_eq_true h1, cond_true, if_pos h1]
    · rw [decide_eq_false h1, cond_false, if_neg h1]
  · rw [if_neg h, if_neg h]
    by_cases h2 : (x : Int) = A + r.Move
    · rw [if_pos h2, if_pos h2]
      by_cases h1 : r.Move = 1
      · rw [decide_eq_true h1, cond_true, if_pos h1]
      · rw [decide_eq_false h1, cond_false, if_neg h1]
    · rw [if_neg h2, if_neg h2]
theorem tileR_left {m : GMachine} {r : GRule} {c : GConfig} {W A B p a : Nat} (hmv : r.Move = 1 ∨ r.Move = -1) (hB : (B : Int) = A + r.Move) (x : Nat) : (if 0 < x then (tileR m r c W A p a (x - 1)).Right else 0) = (tileR m r c W A p a x).Left := by
  unfold tileR
  rcases hmv with hmv | hmv
  · rw [hmv] at hB ⊢
    simp only [if_true]
    by_cases h0 : 0 < x
    · rw [if_pos h0]
      by_cases h1 : x - 1 = A
      · rw [if_pos h1, if_neg (by omega), if_pos (by omega)]
      · rw [if_neg h1]
        by_cases h2 : x = A
        · rw [if_pos h2, if_neg (by omega)]
        · rw [if_neg h2, if_neg (by omega : ¬ (x : Int) = A + 1)]
          split <;> rfl
    · rw [if_neg h0]
      by_cases h2 : x = A
      · rw [if_pos h2]
      · rw [if_neg h2, if_neg (by omega)]
  · rw [hmv] at hB ⊢
    have e1 : ¬ (-1 : Int) = 1 := by decide
    simp only [if_neg e1]
    by_cases h0 : 0 < x
    · rw [if_pos h0]
      by_cases h1 : x - 1 = A
      · rw [if_pos h1, if_neg (by omega)]
        split <;> rfl
      · rw [if_neg h1]
        by_cases h2 : x = A
        · rw [if_pos h2, if_pos (by omega)]
        · rw [if_neg h2, if_neg (by omega : ¬ ((x - 1 : Nat) : Int) = A + -1)]
          split <;> rfl
    · rw [if_neg h0]
      by_cases h2 : x = A
      · omega
      · rw [if_neg h2]
        split <;> rfl
theorem tileR_last {m : GMachine} {r : GRule} {c : GConfig} {W A B p a : Nat} (hmv : r.Move = 1 ∨ r.Move = -1) (hA : A < W) (hB : (B : Int) = A + r.Move) (hBW : B < W) {x : Nat} (hx : x + 1 = W) : (tileR m r c W A p a x).Right = 0 := by
  unfold tileR
  by_cases h2 : x = A
  · rw [if_pos h2]
    rcases hmv with hmv | hmv
    · omega
    · rw [if_neg (by omega)]
  · rw [if_neg h2]
    split
    · split
      · rfl
      · omega
    · rfl
theorem tileR_bot {m : GMachine} {r : GRule} {c : GConfig} {W A p a : Nat} (hA : A < W) (hp : c.State = p) (ha : (rowC c W A).getD A 0 = a) {x : Nat} (hx : x < W) : (tileR m r c W A p a x).Bottom = (botR m c W A).getD x 0 := by
  rw [botR_getD m c hA hx]
  unfold tileR
  by_cases h2 : x = A
  · rw [if_pos h2, if_pos h2, hp, ha]
    split <;> rfl
  · rw [if_neg h2, if_neg h2]
    split
    · split <;> rfl
    · rfl
theorem rowC_step (r : GRule) (c : GConfig) {W A B : Nat} (hmv : r.Move = 1 ∨ r.Move = -1) (hA : A < W) (hB : (B : Int) = A + r.Move) (hBW : B < W) : rowC (stepC r c) W B = (rowC c W A).set A r.Write := by
  rcases hmv with hmv | hmv
  · have : B = A + 1 := by omega
    subst this
    exact rowC_right r c hBW hmv
  · have : A = B + 1 := by omega
    subst this
    exact rowC_left r c hA hmv
theorem stepC_state (r : GRule) (c : GConfig) : (stepC r c).State = r.Next := by
  unfold stepC
  split <;> rfl
theorem tileR_top {m : GMachine} {r : GRule} {c : GConfig} {W A B p a : Nat} (hmv : r.Move = 1 ∨ r.Move = -1) (hA : A < W) (hB : (B : Int) = A + r.Move) (hBW : B < W) {x : Nat} (hx : x < W) : (tileR m r c W A p a x).Top = (botR m (stepC r c) W B).getD x 0 := by
  rw [botR_getD m _ hBW hx, rowC_step r c hmv hA hB hBW, stepC_state, set_getD (by rw [rowC_len]; exact hBW), set_getD (by rw [rowC_len]; exact hx)]
  unfold tileR
  by_cases h2 : x = A
  · have hxB : ¬ x = B := by omega
    rw [if_pos h2, if_neg hxB, if_pos h2.symm]
    split <;> rfl
  · have h2' : ¬ A = x := fun e => h2 e.symm
    rw [if_neg h2, if_neg h2']
    by_cases h3 : (x : Int) = A + r.Move
    · have hxB : x = B := by omega
      subst hxB
      rw [if_pos h3, if_pos rfl, if_neg h2']
      split <;> rfl
    · have hxB : ¬ x = B := by omega
      rw [if_neg h3, if_neg hxB]
/-- A row that can be: the tiles of the step alone. -/
theorem row_good {m : GMachine} {s q : Nat} {bs P : List Int} {c : GConfig} {A p a : Nat} (R : RowI m s q bs P c A p a) {r : GRule} (hr : m.Rules.getD (p * s + a) noR = r) (hn : r ≠ noR) {B : Nat} (hB : (B : Int) = A + r.Move) (hBW : B < bs.length)
    (hm : ∀ i, i < bs.length → tileR m r c bs.length A p a i ∈ tilesM m s q) (n : Nat) :
    solsT (tilesM m s q) bs (n + bs.length) P = solsT (tilesM m s q) bs n (P ++ curR m s q (tileR m r c bs.length A p a) bs.length) ∧
      costT (tilesM m s q) bs (n + bs.length) P ≤ bs.length * (tilesM m s q).length + costT (tilesM m s q) bs n (P ++ curR m s q (tileR m r c bs.length A p a) bs.length) := by
  have hlt : p * s + a < m.Rules.length := by rw [R.M.hl]; exact at_lt R.hp R.ha
  have hmem : m.Rules.getD (p * s + a) noR ∈ m.Rules := by
    rw [List.getD_eq_getElem?_getD, List.getElem?_eq_getElem hlt]
    exact List.getElem_mem hlt
  rw [hr] at hmem
  obtain ⟨_, hmv, hN⟩ := rule_in R.M hmem hn
  have hA := R.hA
  have key := row_all (m := m) (s := s) (q := q) (bs := bs) (P := P) (f := tileR m r c bs.length A p a) (n := n) (fun x hx => by
    refine row_step R hx (fun i hi => hm i (by omega)) (tileR_left hmv hB x) (by rw [tileR_bot hA R.st R.sy hx, R.und x hx]) (tileR_last hmv hA hB hBW) n ?_
    intro t ht hne h1 h2 h3
    by_cases hxA : x = A
    · exfalso
      subst hxA
      rw [R.head] at h2
      obtain ⟨_, e⟩ := over_head R.M ht R.hp R.ha h2
      rw [hr] at e
      refine hne ?_
      rw [e]
      unfold tileR
      rw [if_pos rfl]
    · rw [R.plain hx hxA] at h2
      have hcol := R.rw x hx
      by_cases hxB : (x : Int) = A + r.Move
      · rcases hmv with hmv | hmv
        · exfalso
          have hf : tileR m r c bs.length A p a x = ⟨1 + 2 * r.Next, (rowC c bs.length A).getD x 0, 0, headC m r.Next ((rowC c bs.length A).getD x 0)⟩ := by
            unfold tileR
            rw [if_neg hxA, if_pos hxB, if_pos hmv]
          rw [hf] at h1 hne
          rcases over_plain R.M ht hcol h2 with e | ⟨k, _, e | e⟩
          · rw [e] at h1
            simp only at h1
            omega
          · rw [e] at h1
            simp only at h1
            refine hne ?_
            rw [e, show r.Next = (k : Int) by omega]
          · rw [e] at h1
            simp only at h1
            omega
        · have hf : tileR m r c bs.length A p a x = ⟨0, (rowC c bs.length A).getD x 0, 2 + 2 * r.Next, headC m r.Next ((rowC c bs.length A).getD x 0)⟩ := by
            unfold tileR
            rw [if_neg hxA, if_pos hxB, if_neg (by omega)]
          rw [hf] at h1 hne
          refine ⟨by omega, fun cur hc hl => ?_⟩
          rcases over_plain R.M ht hcol h2 with e | ⟨k, _, e | e⟩
          · rw [e] at hl
            exact dead_head R (by omega) hl (by rw [hr]; exact .inr (.inl (by omega)))
          · rw [e] at h1
            simp only at h1
            omega
          · rw [e] at hl hne
            refine dead_right R (by omega) hl fun _ => ?_
            rw [hr]
            refine .inr (.inr fun e2 => hne ?_)
            rw [e2]
      · have hf : tileR m r c bs.length A p a x = ⟨0, (rowC c bs.length A).getD x 0, 0, (rowC c bs.length A).getD x 0⟩ := by
          unfold tileR
          rw [if_neg hxA, if_neg hxB]
        rw [hf] at h1 hne
        rcases over_plain R.M ht hcol h2 with e | ⟨k, _, e | e⟩
        · exact absurd e hne
        · rw [e] at h1
          simp only at h1
          omega
        · rw [e] at h3
          simp only at h3
          refine ⟨by omega, fun cur hc hl => ?_⟩
          rw [e] at hl
          refine dead_right R (by omega) hl fun e2 => ?_
          rw [hr]
          rcases hmv with hmv | hmv
          · exact .inr (.inl hmv)
          · omega) bs.length 0 (by omega)
  rw [show curR m s q (tileR m r c bs.length A p a) 0 = [] from rfl, List.append_nil] at key
  exact key
theorem RowI.of {m : GMachine} {s q N : Nat} (M : MaI m s q) {c : GConfig} (h : CfI s q N c) {bs P : List Int} {A : Nat} (hA : A < bs.length) (y : ∃ y, P.length = bs.length * y) (und : ∀ x, x < bs.length → underR (tilesM m s q) bs P x = (botR m c bs.length A).getD x 0) :
    ∃ p a, RowI m s q bs P c A p a ∧ m.Rules.getD (p * s + a) noR = ruleAt m c := by
  obtain ⟨p, a, hp, ha, hpq, has, e, _⟩ := at_eq M h
  refine ⟨p, a, ⟨M, y, hA, und, fun x hx => h.row hx, hp, hpq, ?_, has⟩, ?_⟩
  · rw [rowC_getD c hA, if_neg (by omega), Nat.sub_self, ha]
  · unfold ruleAt
    rw [e]
    rfl
/-- All tilings over the row of a configuration. -/
theorem tilings_run {m : GMachine} {s q : Nat} (M : MaI m s q) {bs : List Int} : ∀ (k A N : Nat) (c : GConfig) (out : List (List Int)), CfI s q N c → A < bs.length → out.flatten.length = bs.length * out.length →
    (∀ x, x < bs.length → underR (tilesM m s q) bs out.flatten x = (botR m c bs.length A).getD x 0) →
    ((goT m (tilesM m s q) bs.length k A c out).2 = 0 → solsT (tilesM m s q) bs (bs.length * k) out.flatten = [(goT m (tilesM m s q) bs.length k A c out).1.flatten]) ∧
      ((goT m (tilesM m s q) bs.length k A c out).2 ≠ 0 → solsT (tilesM m s q) bs (bs.length * k) out.flatten = [] ∧ goT m (tilesM m s q) bs.length k A c out = ([], 6)) ∧ costT (tilesM m s q) bs (bs.length * k) out.flatten ≤ k * (bs.length * (tilesM m s q).length) := by
  intro k
  induction k with
  | zero =>
    intro A N c out _ _ _ _
    exact ⟨fun _ => rfl, fun h => absurd rfl h, Nat.zero_le _⟩
  | succ k ih =>
    intro A N c out h hA hl hu
    obtain ⟨p, a, R, hr⟩ := RowI.of M h hA ⟨_, hl⟩ hu
    rw [Nat.mul_succ, Nat.succ_mul]
    by_cases hbad : ruleAt m c = noR ∨ ¬ (0 ≤ (A : Int) + (ruleAt m c).Move ∧ (A : Int) + (ruleAt m c).Move ≤ bs.length - 1)
    · rw [goT_stop hbad]
      have hb : m.Rules.getD (p * s + a) noR = noR ∨ ((m.Rules.getD (p * s + a) noR).Move = -1 ∧ A = 0) ∨ ((m.Rules.getD (p * s + a) noR).Move = 1 ∧ A + 1 = bs.length) := by
        rw [hr]
        by_cases hn : ruleAt m c = noR
        · exact .inl hn
        · have hm := (rule_in M (ruleAt_idx M h).2 hn).2.1
          rcases hbad with hbad | hbad
          · exact absurd hbad hn
          · rcases hm with hm | hm
            · exact .inr (.inr ⟨hm, by omega⟩)
            · exact .inr (.inl ⟨hm, by omega⟩)
      have hrow := row_bad R hb (bs.length * k) A 0 (by omega)
      rw [show curR m s q (restA c bs.length A) 0 = [] from rfl, List.append_nil, Nat.sub_zero] at hrow
      refine ⟨fun e => absurd e (by decide), fun _ => ⟨hrow.1, rfl⟩, Nat.le_trans hrow.2 ?_⟩
      have : A * (tilesM m s q).length ≤ bs.length * (tilesM m s q).length := Nat.mul_le_mul_right _ (by omega)
      omega
    · have hn : ruleAt m c ≠ noR := fun e => hbad (.inl e)
      have hin : 0 ≤ (A : Int) + (ruleAt m c).Move ∧ (A : Int) + (ruleAt m c).Move ≤ bs.length - 1 := Classical.not_not.1 fun e => hbad (.inr e)
      obtain ⟨w1, hm, w3⟩ := rule_in M (ruleAt_idx M h).2 hn
      have b4 := M.b4
      obtain ⟨B, hB⟩ : ∃ B : Nat, (B : Int) = A + (ruleAt m c).Move := ⟨((A : Int) + (ruleAt m c).Move).toNat, by omega⟩
      have hBW : B < bs.length := by omega
      rw [goT_next hn hB hBW]
      have htile : ∀ i, i < bs.length → tileR m (ruleAt m c) c bs.length A p a i ∈ tilesM m s q := fun i hi => by
        have := tileA_mem (A := A) M h hn hi
        rwa [tileA_eq (by omega) R.st R.sy] at this
      have hrow := row_good R hr hn hB hBW htile (bs.length * k)
      have ecur : curR m s q (tileR m (ruleAt m c) c bs.length A p a) bs.length = rowTl m (tilesM m s q) (ruleAt m c) c bs.length A := by
        unfold curR rowTl
        refine List.map_congr_left fun i hi => ?_
        rw [tileA_eq (by omega) R.st R.sy]
      have eflat : (out ++ [rowTl m (tilesM m s q) (ruleAt m c) c bs.length A]).flatten = out.flatten ++ rowTl m (tilesM m s q) (ruleAt m c) c bs.length A := by
        rw [List.flatten_append, List.flatten_cons, List.flatten_nil, List.append_nil]
      have lrow : (rowTl m (tilesM m s q) (ruleAt m c) c bs.length A).length = bs.length := by simp [rowTl]
      rw [ecur, ← eflat] at hrow
      have hnext := ih B (N + 2) (stepC (ruleAt m c) c) (out ++ [rowTl m (tilesM m s q) (ruleAt m c) c bs.length A]) (h.step w1 w3) hBW (by
        rw [eflat, List.length_append, lrow, hl, List.length_append, List.length_singleton, Nat.mul_succ]) (fun x hx => by
        unfold underR
        rw [eflat, List.length_append, lrow, if_neg (by omega), getD_app_r (by omega), show out.flatten.length + bs.length - bs.length + x - out.flatten.length = x by omega, ← tileR_top (m := m) (p := p) (a := a) hm hA hB hBW hx]
        obtain ⟨i, _, e1, e2⟩ := tAt_ix (htile x hx)
        rw [← ecur]
        have : (curR m s q (tileR m (ruleAt m c) c bs.length A p a) bs.length).getD x 0 = (i : Int) := by
          rw [List.getD_eq_getElem?_getD, List.getElem?_eq_getElem (by rw [curR_len]; exact hx)]
          unfold curR
          rw [List.getElem_map, List.getElem_range]
          exact e1
        rw [this]
        show ((tilesM m s q).getD i zT).Top = _
        rw [e2])
      refine ⟨fun e => hrow.1.trans (hnext.1 e), fun e => ⟨hrow.1.trans (hnext.2.1 e).1, (hnext.2.1 e).2⟩, ?_⟩
      have := hrow.2
      have := hnext.2.2
      omega
end Go.Fn
