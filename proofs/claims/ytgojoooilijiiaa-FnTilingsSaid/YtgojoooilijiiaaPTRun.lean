/-
  Runs as tilings; the plain law of TilingOfRun. No program in sight. No condition.
-/
import Derived.Test.YtgojoooilijiiaaPRow
namespace Go.Fn
open Go Go.Tc
theorem trimL_getD (xs : List Int) (j : Nat) : (trimL xs).getD j 0 = xs.getD j 0 := by
  obtain ⟨n, hn⟩ : ∃ n, xs.length = n := ⟨_, rfl⟩
  induction n generalizing xs with
  | zero =>
    obtain rfl := List.eq_nil_of_length_eq_zero hn
    rfl
  | succ n ih =>
    rcases snoc_cases xs with rfl | ⟨ys, y, rfl⟩
    · simp at hn
    · rw [trimL_snoc]
      by_cases h : y = 0
      · rw [if_pos h, ih ys (by simpa using hn)]
        subst h
        rw [List.getD_eq_getElem?_getD, List.getD_eq_getElem?_getD, List.getElem?_append]
        split
        · rfl
        · rename_i h2
          rw [List.getElem?_eq_none (by omega)]
          cases hj : j - ys.length <;> simp
      · rw [if_neg h]
theorem tail_getD (xs : List Int) (j : Nat) : xs.tail.getD j 0 = xs.getD (j + 1) 0 := by
  cases xs <;> simp
/-- A step by the rule r. -/
def stepC (r : GRule) (c : GConfig) : GConfig :=
  if 0 < r.Move then ⟨r.Next, trimL (r.Write :: c.Left), c.Right.tail⟩ else ⟨r.Next, c.Left.tail, trimL (c.Left.getD 0 0 :: trimL (r.Write :: c.Right.tail))⟩
theorem stepC_len (r : GRule) (c : GConfig) : (stepC r c).Left.length ≤ c.Left.length + 1 ∧ (stepC r c).Right.length ≤ c.Right.length + 2 := by
  unfold stepC
  have h1 := trimL_len (r.Write :: c.Left)
  have h2 := trimL_len (r.Write :: c.Right.tail)
  have h3 := trimL_len (c.Left.getD 0 0 :: trimL (r.Write :: c.Right.tail))
  have h4 : c.Right.tail.length ≤ c.Right.length := by simp
  have h5 : c.Left.tail.length ≤ c.Left.length := by simp
  simp only [List.length_cons] at h1 h2 h3
  split
  · simp only
    omega
  · simp only
    omega
theorem rowC_len (c : GConfig) (W A : Nat) : (rowC c W A).length = W := by simp [rowC]
theorem rowC_getD (c : GConfig) {W A i : Nat} (h : i < W) : (rowC c W A).getD i 0 = if i < A then c.Left.getD (A - 1 - i) 0 else c.Right.getD (i - A) 0 := by
  rw [List.getD_eq_getElem?_getD, List.getElem?_eq_getElem (by simpa [rowC] using h)]
  simp [rowC]
theorem rowC_right (r : GRule) (c : GConfig) {W A : Nat} (hA : A + 1 < W) (hm : r.Move = 1) : rowC (stepC r c) W (A + 1) = (rowC c W A).set A r.Write := by
  apply List.ext_getElem?
  intro i
  by_cases hi : i < W
  · have e1 := rowC_getD (stepC r c) (A := A + 1) hi
    have e2 := rowC_getD c (A := A) hi
    rw [List.getElem?_set, List.getElem?_eq_getElem (by rw [rowC_len]; exact hi)]
    rw [List.getD_eq_getElem?_getD, List.getElem?_eq_getElem (by rw [rowC_len]; exact hi), Option.getD_some] at e1 e2
    have es : stepC r c = ⟨r.Next, trimL (r.Write :: c.Left), c.Right.tail⟩ := by
      unfold stepC
      rw [if_pos (by omega)]
    rw [e1, rowC_len, es]
    by_cases h1 : A = i
    · subst h1
      rw [if_pos rfl, if_pos hi, if_pos (by omega), trimL_getD, show A + 1 - 1 - A = 0 by omega]
      rfl
    · rw [if_neg h1, List.getElem?_eq_getElem (by rw [rowC_len]; exact hi), e2]
      by_cases h2 : i < A
      · rw [if_pos (by omega), if_pos h2, trimL_getD, show A + 1 - 1 - i = (A - 1 - i) + 1 by omega]
        rfl
      · rw [if_neg (by omega), if_neg h2, tail_getD, show i - (A + 1) + 1 = i - A by omega]
  · rw [List.getElem?_eq_none (by rw [rowC_len]; omega), List.getElem?_eq_none (by rw [List.length_set, rowC_len]; omega)]
theorem rowC_left (r : GRule) (c : GConfig) {W A : Nat} (hA : A + 1 < W) (hm : r.Move = -1) : rowC (stepC r c) W A = (rowC c W (A + 1)).set (A + 1) r.Write := by
  apply List.ext_getElem?
  intro i
  by_cases hi : i < W
  · have e1 := rowC_getD (stepC r c) (A := A) hi
    have e2 := rowC_getD c (A := A + 1) hi
    rw [List.getElem?_set, List.getElem?_eq_getElem (by rw [rowC_len]; exact hi)]
    rw [List.getD_eq_getElem?_getD, List.getElem?_eq_getElem (by rw [rowC_len]; exact hi), Option.getD_some] at e1 e2
    have es : stepC r c = ⟨r.Next, c.Left.tail, trimL (c.Left.getD 0 0 :: trimL (r.Write :: c.Right.tail))⟩ := by
      unfold stepC
      rw [if_neg (by omega)]
    rw [e1, rowC_len, es]
    by_cases h1 : A + 1 = i
    · subst h1
      rw [if_pos rfl, if_pos hi, if_neg (by omega), trimL_getD, show A + 1 - A = 0 + 1 by omega, List.getD_cons_succ, trimL_getD]
      rfl
    · rw [if_neg h1, List.getElem?_eq_getElem (by rw [rowC_len]; exact hi), e2]
      by_cases h2 : i < A
      · rw [if_pos (by omega), if_pos (by omega), tail_getD, show A - 1 - i + 1 = A + 1 - 1 - i by omega]
      · rw [if_neg h2, trimL_getD]
        by_cases h3 : i = A
        · subst h3
          rw [if_pos (by omega), show i - i = 0 by omega, show i + 1 - 1 - i = 0 by omega]
          rfl
        · rw [if_neg (by omega), show i - A = (i - A - 1 - 1) + 1 + 1 by omega, List.getD_cons_succ, trimL_getD, List.getD_cons_succ, tail_getD, show i - A - 1 - 1 + 1 = i - (A + 1) by omega]
  · rw [List.getElem?_eq_none (by rw [rowC_len]; omega), List.getElem?_eq_none (by rw [List.length_set, rowC_len]; omega)]
/-- The place of a tile. -/
def ixT (ts : List GTile) (t : GTile) : Int := match ts.findIdx? (fun x => decide (x = t)) with
  | none => -1
  | some i => (i : Int)
/-- The table of the places. -/
theorem places_run (ts : List GTile) (h : ts.length ≤ 1048576) (hn : ts.Nodup) (c : Int) : ∃ p : List (GTile × Int), run (F_impl_TilingOfRun_L1 (ts, c)) (([] : List (GTile × Int)), 0) = some (.brk (p, (ts.length : Int))) ∧ ∀ t ∈ ts, (mget p t).getD 0 = ixT ts t := by
  obtain ⟨o, ho, p, rfl, hp⟩ := run_inv (body := F_impl_TilingOfRun_L1 (ts, c)) (fun s => ∃ i : Nat, s.2 = i ∧ i ≤ ts.length ∧ ∀ (j : Nat) (t : GTile), j < i → ts[j]? = some t → mget s.1 t = some (j : Int)) (fun o => ∃ p, o = .brk (p, (ts.length : Int)) ∧ ∀ (j : Nat) (t : GTile), ts[j]? = some t → mget p t = some (j : Int)) (fun s => (ts.length - s.2).toNat) (by
    rintro ⟨p, i'⟩ ⟨i, hi, hle, hI⟩
    simp only at hi
    subst hi
    by_cases hlt : i < ts.length
    · left
      refine ⟨(mput p ts[i] (i : Int), ((i + 1 : Nat) : Int)), by simp only [F_impl_TilingOfRun_L1, Int.ofNat_lt, hlt, decide_true, cond_true, idx_nat hlt, bnd_some_eq]; rw [w64_nat1 (by omega)], ⟨i + 1, rfl, by omega, fun j t hj ht => ?_⟩, by simp only; omega⟩
      rw [mget_mput]
      by_cases hji : j = i
      · subst hji
        rw [List.getElem?_eq_getElem hlt] at ht
        rw [if_pos (Option.some.inj ht)]
      · have hne : ¬ ts[i] = t := by
          intro e
          exact hji ((List.getElem?_inj (i := j) (j := i) (by omega) hn).1 (by rw [ht, List.getElem?_eq_getElem hlt, e]))
        rw [if_neg hne]
        exact hI j t (by omega) ht
    · right
      obtain rfl : i = ts.length := by omega
      exact ⟨_, by simp [F_impl_TilingOfRun_L1], p, rfl, fun j t ht => hI j t (List.getElem?_eq_some_iff.1 ht).1 ht⟩) (([] : List (GTile × Int)), 0) ⟨0, rfl, by omega, fun j t hj => by omega⟩
  refine ⟨p, ho, fun t ht => ?_⟩
  obtain ⟨j, hj⟩ := List.mem_iff_getElem?.1 ht
  rw [hp j t hj]
  unfold ixT
  have : ts.findIdx? (fun x => decide (x = t)) = some j := by
    have hlt := (List.getElem?_eq_some_iff.1 hj).1
    rw [List.findIdx?_eq_some_iff_getElem]
    refine ⟨hlt, ?_, fun i hi => ?_⟩
    · rw [List.getElem?_eq_getElem hlt] at hj
      exact decide_eq_true (Option.some.inj hj)
    · rw [decide_eq_true_eq]
      intro e
      have := (List.getElem?_inj (i := i) (j := j) (by omega) hn).1 (by rw [hj, List.getElem?_eq_getElem (by omega), e])
      omega
  rw [this]
  rfl
theorem headC_eq {m : GMachine} {s q : Nat} (hs : m.Symbols = s) (b2 : s ≤ 6) (b4 : q ≤ 1000) {p a : Nat} (hp : p < q) (ha : a < s) : headC m p a = ((s * (p + 1) + a : Nat) : Int) := by
  have e1 : w64 ((p : Int) + 1) = ((p + 1 : Nat) : Int) := w64_nat1 (by omega)
  have h1 : s * (p + 1) ≤ 6 * 1000 := Nat.mul_le_mul b2 (by omega)
  have e2 : w64 (m.Symbols * ((p + 1 : Nat) : Int)) = ((s * (p + 1) : Nat) : Int) := by rw [hs]; exact w64_mul (by omega)
  unfold headC
  rw [e1, e2, w64_add (by omega)]
theorem headC_inj {m : GMachine} {s q : Nat} (hs : m.Symbols = s) (b2 : s ≤ 6) (b4 : q ≤ 1000) {p a p' a' : Nat} (hp : p < q) (ha : a < s) (hp' : p' < q) (ha' : a' < s) (h : headC m p a = headC m p' a') : p = p' ∧ a = a' := by
  rw [headC_eq hs b2 b4 hp ha, headC_eq hs b2 b4 hp' ha'] at h
  have h' : s * (p + 1) + a = s * (p' + 1) + a' := by omega
  have d1 : (s * (p + 1) + a) / s = p + 1 := by rw [Nat.mul_add_div (by omega), Nat.div_eq_of_lt ha, Nat.add_zero]
  have d2 : (s * (p' + 1) + a') / s = p' + 1 := by rw [Nat.mul_add_div (by omega), Nat.div_eq_of_lt ha', Nat.add_zero]
  rw [h', d2] at d1
  have : p = p' := by omega
  subst this
  exact ⟨rfl, by omega⟩
theorem leaveT_bot {m : GMachine} {q a : Int} {r : GRule} {x : GTile} (h : x ∈ leaveT m q a r) : x.Bottom = headC m q a := by
  unfold leaveT at h
  cases hn : decide (r = noR)
  · rw [hn, cond_false, List.mem_singleton] at h
    subst h
    cases decide (r.Move = 1) <;> rfl
  · rw [hn] at h
    simp at h
theorem tiles_nodup {m : GMachine} {s q : Nat} (hs : m.Symbols = s) (b1 : 2 ≤ s) (b2 : s ≤ 6) (b4 : q ≤ 1000) : (tilesM m s q).Nodup := by
  have hge : ∀ {p a : Nat}, p < q → a < s → (s : Int) ≤ headC m p a := fun hp ha => by
    rw [headC_eq hs b2 b4 hp ha, Nat.mul_add]
    omega
  unfold tilesM
  rw [List.nodup_append, List.nodup_append]
  refine ⟨⟨?_, ?_, ?_⟩, ?_, ?_⟩
  · unfold List.Nodup
    rw [List.pairwise_flatMap]
    refine ⟨fun a _ => by simp [restT], List.Pairwise.imp ?_ List.pairwise_lt_range⟩
    intro a b hab x hx y hy e
    simp only [restT, List.mem_singleton] at hx hy
    subst hx hy
    have := congrArg GTile.Bottom e
    simp only at this
    omega
  · unfold List.Nodup
    rw [List.pairwise_flatMap]
    refine ⟨fun p hp => ?_, ?_⟩
    · rw [List.pairwise_flatMap]
      refine ⟨fun a _ => ?_, List.Pairwise.imp_of_mem ?_ List.pairwise_lt_range⟩
      · have := leaveT_len m p a (m.Rules.getD (p * s + a) noR)
        generalize leaveT m p a (m.Rules.getD (p * s + a) noR) = l at *
        match l, this with
        | [], _ => simp
        | [x], _ => simp
      · intro a b ha hb hab x hx y hy e
        subst e
        have h1 := leaveT_bot hx
        rw [leaveT_bot hy] at h1
        have := (headC_inj hs b2 b4 (List.mem_range.1 hp) (List.mem_range.1 hb) (List.mem_range.1 hp) (List.mem_range.1 ha) h1).2
        omega
    · refine List.Pairwise.imp_of_mem ?_ List.pairwise_lt_range
      intro p p' hp hp' hpp x hx y hy e
      subst e
      simp only [List.mem_flatMap, List.mem_range] at hx hy
      obtain ⟨a, ha, hx⟩ := hx
      obtain ⟨a', ha', hy⟩ := hy
      have h1 := leaveT_bot hx
      rw [leaveT_bot hy] at h1
      have := (headC_inj hs b2 b4 (List.mem_range.1 hp') ha' (List.mem_range.1 hp) ha h1).1
      omega
  · intro x hx y hy e
    subst e
    simp only [List.mem_flatMap, List.mem_range] at hx hy
    obtain ⟨a, ha, hx⟩ := hx
    obtain ⟨p, hp, b, hb, hy⟩ := hy
    have h1 := leaveT_bot hy
    simp only [restT, List.mem_singleton] at hx
    subst hx
    have := hge hp hb
    simp only at h1
    omega
  · unfold List.Nodup
    rw [List.pairwise_flatMap]
    refine ⟨fun p hp => ?_, ?_⟩
    · rw [List.pairwise_flatMap]
      refine ⟨fun a _ => ?_, List.Pairwise.imp_of_mem ?_ List.pairwise_lt_range⟩
      · simp only [comeT, List.pairwise_cons, List.mem_singleton, List.not_mem_nil, false_implies, implies_true, List.Pairwise.nil, and_true]
        rintro _ rfl e
        have := congrArg GTile.Left e
        simp only at this
        have hp' := List.mem_range.1 hp
        rw [w64_in (n := 2 * (p : Int)) (by omega) (by omega), w64_in (by omega) (by omega)] at this
        omega
      · intro a b ha hb hab x hx y hy e
        subst e
        simp only [comeT, List.mem_cons, List.not_mem_nil, or_false] at hx hy
        have hx' : x.Bottom = (a : Int) := by rcases hx with rfl | rfl <;> rfl
        have hy' : x.Bottom = (b : Int) := by rcases hy with rfl | rfl <;> rfl
        omega
    · refine List.Pairwise.imp_of_mem ?_ List.pairwise_lt_range
      intro p p' hp hp' hpp x hx y hy e
      subst e
      simp only [List.mem_flatMap, List.mem_range] at hx hy
      obtain ⟨a, ha, hx⟩ := hx
      obtain ⟨a', ha', hy⟩ := hy
      simp only [comeT, List.mem_cons, List.not_mem_nil, or_false] at hx hy
      have hx' : x.Top = headC m p a := by rcases hx with rfl | rfl <;> rfl
      have hy' : x.Top = headC m p' a' := by rcases hy with rfl | rfl <;> rfl
      rw [hx'] at hy'
      have := (headC_inj hs b2 b4 (List.mem_range.1 hp) ha (List.mem_range.1 hp') ha' hy').1
      omega
  · intro x hx y hy e
    subst e
    simp only [List.mem_flatMap, List.mem_range] at hy
    obtain ⟨p', hp', a', ha', hy⟩ := hy
    simp only [comeT, List.mem_cons, List.not_mem_nil, or_false] at hy
    have hy1 : x.Bottom = (a' : Int) := by rcases hy with rfl | rfl <;> rfl
    have hy2 : x.Top = headC m p' a' := by rcases hy with rfl | rfl <;> rfl
    have hg := hge hp' ha'
    rcases List.mem_append.1 hx with hx | hx
    · simp only [List.mem_flatMap, List.mem_range] at hx
      obtain ⟨a, ha, hx⟩ := hx
      simp only [restT, List.mem_singleton] at hx
      subst hx
      simp only at hy2
      omega
    · simp only [List.mem_flatMap, List.mem_range] at hx
      obtain ⟨p, hp, a, ha, hx⟩ := hx
      have h1 := leaveT_bot hx
      have := hge hp ha
      omega
/-- The rule that is looked at. -/
def ruleAt (m : GMachine) (c : GConfig) : GRule := m.Rules.getD (w64 ((w64 (c.State * m.Symbols)) + c.Right.getD 0 0)).toNat noR
def tileA (m : GMachine) (r : GRule) (c : GConfig) (W A i : Nat) : GTile :=
  if i = A then cond (decide (r.Move = 1)) ⟨0, headC m c.State ((rowC c W A).getD i 0), w64 (1 + w64 (2 * r.Next)), r.Write⟩ ⟨w64 (2 + w64 (2 * r.Next)), headC m c.State ((rowC c W A).getD i 0), 0, r.Write⟩
  else if (i : Int) = A + r.Move then cond (decide (r.Move = 1)) ⟨w64 (1 + w64 (2 * r.Next)), (rowC c W A).getD i 0, 0, headC m r.Next ((rowC c W A).getD i 0)⟩ ⟨0, (rowC c W A).getD i 0, w64 (2 + w64 (2 * r.Next)), headC m r.Next ((rowC c W A).getD i 0)⟩
  else ⟨0, (rowC c W A).getD i 0, 0, (rowC c W A).getD i 0⟩
def rowTl (m : GMachine) (ts : List GTile) (r : GRule) (c : GConfig) (W A : Nat) : List Int := (List.range W).map fun i => ixT ts (tileA m r c W A i)
def goT (m : GMachine) (ts : List GTile) (W : Nat) : Nat → Nat → GConfig → List (List Int) → List (List Int) × Int
  | 0, _, _, out => (out, 0)
  | n + 1, A, c, out =>
    if ruleAt m c = noR ∨ ¬ (0 ≤ (A : Int) + (ruleAt m c).Move ∧ (A : Int) + (ruleAt m c).Move ≤ W - 1) then ([], 6)
    else goT m ts W n ((A : Int) + (ruleAt m c).Move).toNat (stepC (ruleAt m c) c) (out ++ [rowTl m ts (ruleAt m c) c W A])
/-- What is kept of a configuration while it runs. -/
structure CfI (s q N : Nat) (c : GConfig) : Prop where
  st : ∃ p : Nat, c.State = p ∧ p < q
  lf : ∀ j, 0 ≤ c.Left.getD j 0 ∧ c.Left.getD j 0 < s
  rt : ∀ j, 0 ≤ c.Right.getD j 0 ∧ c.Right.getD j 0 < s
  ll : c.Left.length ≤ N
  rl : c.Right.length ≤ N
theorem getD_cons_in {x : Int} {l : List Int} {s : Nat} (hx : 0 ≤ x ∧ x < s) (hl : ∀ j, 0 ≤ l.getD j 0 ∧ l.getD j 0 < s) : ∀ j, 0 ≤ (x :: l).getD j 0 ∧ (x :: l).getD j 0 < s := fun j => by
  cases j with
  | zero => exact hx
  | succ j => rw [List.getD_cons_succ]; exact hl j
theorem CfI.step {s q N : Nat} {c : GConfig} (h : CfI s q N c) {r : GRule} (h1 : 0 ≤ r.Write ∧ r.Write < s) (h2 : 0 ≤ r.Next ∧ r.Next < q) : CfI s q (N + 2) (stepC r c) := by
  have hl := stepC_len r c
  have e1 : ∀ j, 0 ≤ (trimL (r.Write :: c.Left)).getD j 0 ∧ (trimL (r.Write :: c.Left)).getD j 0 < s := fun j => by rw [trimL_getD]; exact getD_cons_in h1 h.lf j
  have e2 : ∀ j, 0 ≤ c.Right.tail.getD j 0 ∧ c.Right.tail.getD j 0 < s := fun j => by rw [tail_getD]; exact h.rt _
  have e3 : ∀ j, 0 ≤ c.Left.tail.getD j 0 ∧ c.Left.tail.getD j 0 < s := fun j => by rw [tail_getD]; exact h.lf _
  have e4 : ∀ j, 0 ≤ (trimL (c.Left.getD 0 0 :: trimL (r.Write :: c.Right.tail))).getD j 0 ∧ (trimL (c.Left.getD 0 0 :: trimL (r.Write :: c.Right.tail))).getD j 0 < s := fun j => by
    rw [trimL_getD]
    exact getD_cons_in (h.lf 0) (fun j => by rw [trimL_getD]; exact getD_cons_in h1 e2 j) j
  have := h.ll
  have := h.rl
  refine ⟨⟨r.Next.toNat, ?_, by omega⟩, ?_, ?_, by omega, by omega⟩
  · unfold stepC
    split <;> (simp only; omega)
  · unfold stepC
    split
    · exact e1
    · exact e3
  · unfold stepC
    split
    · exact e2
    · exact e4
theorem CfI.row {s q N : Nat} {c : GConfig} (h : CfI s q N c) {W A i : Nat} (hi : i < W) : 0 ≤ (rowC c W A).getD i 0 ∧ (rowC c W A).getD i 0 < s := by
  rw [rowC_getD c hi]
  split
  · exact h.lf _
  · exact h.rt _
/-- The machine's facts, in one. -/
structure MaI (m : GMachine) (s q : Nat) : Prop where
  hs : m.Symbols = s
  hq : m.States = q
  b1 : 2 ≤ s
  b2 : s ≤ 6
  b3 : 1 ≤ q
  b4 : q ≤ 1000
  hl : m.Rules.length = q * s
  b5 : q * s ≤ 6000
  hr : ∀ r ∈ m.Rules, ruleB m.Symbols m.States r = true
theorem at_eq {m : GMachine} {s q N : Nat} (M : MaI m s q) {c : GConfig} (h : CfI s q N c) : ∃ p a : Nat, c.State = p ∧ c.Right.getD 0 0 = a ∧ p < q ∧ a < s ∧ w64 ((w64 (c.State * m.Symbols)) + c.Right.getD 0 0) = ((p * s + a : Nat) : Int) ∧ p * s + a < q * s := by
  obtain ⟨p, hp, hpq⟩ := h.st
  have h0 := h.rt 0
  have hlt := at_lt hpq (show (c.Right.getD 0 0).toNat < s by omega)
  have := M.b5
  refine ⟨p, (c.Right.getD 0 0).toNat, hp, by omega, hpq, by omega, ?_, hlt⟩
  rw [hp, M.hs, w64_mul (by omega), show c.Right.getD 0 0 = ((c.Right.getD 0 0).toNat : Int) by omega, w64_add (by omega)]
  simp
theorem ruleAt_idx {m : GMachine} {s q N : Nat} (M : MaI m s q) {c : GConfig} (h : CfI s q N c) : idx m.Rules (w64 ((w64 (c.State * m.Symbols)) + c.Right.getD 0 0)) = some (ruleAt m c) ∧ ruleAt m c ∈ m.Rules := by
  obtain ⟨p, a, hp, ha, hpq, has, e, hlt⟩ := at_eq M h
  have hlt' : p * s + a < m.Rules.length := by rw [M.hl]; exact hlt
  unfold ruleAt
  rw [e, idx_nat hlt', Int.toNat_natCast, List.getD_eq_getElem?_getD, List.getElem?_eq_getElem hlt']
  exact ⟨rfl, List.getElem_mem _⟩
theorem rule_in {m : GMachine} {s q : Nat} (M : MaI m s q) {r : GRule} (h : r ∈ m.Rules) (hn : r ≠ noR) : (0 ≤ r.Write ∧ r.Write < s) ∧ (r.Move = 1 ∨ r.Move = -1) ∧ (0 ≤ r.Next ∧ r.Next < q) := by
  have hb := M.hr r h
  unfold ruleB at hb
  rw [decide_eq_false hn, Bool.false_or, Bool.and_eq_true, Bool.and_eq_true] at hb
  have w1 := inB_iff.1 hb.1
  have w2 := inB_iff.1 hb.2.2
  have w3 := hb.2.1
  simp only [Bool.or_eq_true, decide_eq_true_eq] at w3
  have := M.hs
  have := M.hq
  exact ⟨by omega, w3, by omega⟩
theorem get_getD {xs : List Int} {i : Nat} (h : i < xs.length) : xs[i] = xs.getD i 0 := by
  rw [List.getD_eq_getElem?_getD, List.getElem?_eq_getElem h]
  rfl
theorem set_getD {xs : List Int} {i j : Nat} {v : Int} (h : j < xs.length) : (xs.set i v).getD j 0 = if i = j then v else xs.getD j 0 := by
  rw [List.getD_eq_getElem?_getD, List.getD_eq_getElem?_getD, List.getElem?_set]
  by_cases e : i = j
  · subst e
    simp [h]
  · simp [e]
theorem goT_stop {m : GMachine} {ts : List GTile} {W n A : Nat} {c : GConfig} {out : List (List Int)} (h : ruleAt m c = noR ∨ ¬ (0 ≤ (A : Int) + (ruleAt m c).Move ∧ (A : Int) + (ruleAt m c).Move ≤ W - 1)) : goT m ts W (n + 1) A c out = ([], 6) := by
  unfold goT
  rw [if_pos h]
theorem goT_next {m : GMachine} {ts : List GTile} {W n A B : Nat} {c : GConfig} {out : List (List Int)} (h1 : ruleAt m c ≠ noR) (h2 : (B : Int) = (A : Int) + (ruleAt m c).Move) (h3 : B < W) : goT m ts W (n + 1) A c out = goT m ts W n B (stepC (ruleAt m c) c) (out ++ [rowTl m ts (ruleAt m c) c W A]) := by
  rw [goT, if_neg (by rintro (h | h); exact h1 h; exact h (by omega)), ← h2]
  rfl
theorem leave_mem {m : GMachine} {s q p a : Nat} (hp : p < q) (ha : a < s) (hn : m.Rules.getD (p * s + a) noR ≠ noR) : (cond (decide ((m.Rules.getD (p * s + a) noR).Move = 1)) ⟨0, headC m p a, w64 (1 + w64 (2 * (m.Rules.getD (p * s + a) noR).Next)), (m.Rules.getD (p * s + a) noR).Write⟩ ⟨w64 (2 + w64 (2 * (m.Rules.getD (p * s + a) noR).Next)), headC m p a, 0, (m.Rules.getD (p * s + a) noR).Write⟩ : GTile) ∈ tilesM m s q := by
  unfold tilesM
  refine List.mem_append_left _ (List.mem_append_right _ (List.mem_flatMap.2 ⟨p, List.mem_range.2 hp, List.mem_flatMap.2 ⟨a, List.mem_range.2 ha, ?_⟩⟩))
  unfold leaveT
  rw [decide_eq_false hn, cond_false]
  exact List.mem_singleton.2 rfl
theorem tileA_mem {m : GMachine} {s q N : Nat} (M : MaI m s q) {c : GConfig} (h : CfI s q N c) (hn : ruleAt m c ≠ noR) {W A i : Nat} (hi : i < W) : tileA m (ruleAt m c) c W A i ∈ tilesM m s q := by
  obtain ⟨hidx, hmem⟩ := ruleAt_idx M h
  obtain ⟨w1, w2, w3⟩ := rule_in M hmem hn
  have hc := h.row (A := A) hi
  obtain ⟨x, hx⟩ : ∃ x : Nat, (rowC c W A).getD i 0 = x := ⟨((rowC c W A).getD i 0).toNat, by omega⟩
  unfold tileA
  by_cases hiA : i = A
  · rw [if_pos hiA]
    obtain ⟨p, a, hp, ha, hpq, has, e, hlt⟩ := at_eq M h
    have e2 : (rowC c W A).getD i 0 = (a : Int) := by
      rw [rowC_getD c hi, if_neg (by omega), hiA, Nat.sub_self, ha]
    have e3 : ruleAt m c = m.Rules.getD (p * s + a) noR := by
      unfold ruleAt
      rw [e, Int.toNat_natCast]
    rw [e2, hp, e3]
    exact leave_mem hpq has (e3 ▸ hn)
  · rw [if_neg hiA, hx]
    by_cases hB : (i : Int) = A + (ruleAt m c).Move
    · rw [if_pos hB]
      obtain ⟨y, hy⟩ : ∃ y : Nat, (ruleAt m c).Next = y := ⟨(ruleAt m c).Next.toNat, by omega⟩
      rw [hy]
      unfold tilesM
      refine List.mem_append_right _ (List.mem_flatMap.2 ⟨y, List.mem_range.2 (by omega), List.mem_flatMap.2 ⟨x, List.mem_range.2 (by omega), ?_⟩⟩)
      unfold comeT
      cases decide ((ruleAt m c).Move = 1) <;> simp
    · rw [if_neg hB]
      unfold tilesM
      exact List.mem_append_left _ (List.mem_append_left _ (List.mem_flatMap.2 ⟨x, List.mem_range.2 (by omega), List.mem_singleton.2 rfl⟩))
/-- A row of the program's. -/
theorem impl_rowT {m : GMachine} {s q N : Nat} (M : MaI m s q) {c : GConfig} (h : CfI s q N c) (hn : ruleAt m c ≠ noR) {pl : List (GTile × Int)} (hpl : ∀ t ∈ tilesM m s q, (mget pl t).getD 0 = ixT (tilesM m s q) t) {W A : Nat} (hW : W ≤ 30) (hA : A < W) (k k2 : Int) (out : List (List Int)) :
    run (F_impl_TilingOfRun_L3 m (pl, k) ((A : Int), rowC c W A, out, c.State, k2) ((ruleAt m c).Write, (ruleAt m c).Move, (ruleAt m c).Next)) (([] : List Int), 0) = some (.brk (rowTl m (tilesM m s q) (ruleAt m c) c W A, (W : Int))) := by
  obtain ⟨hidx, hmem⟩ := ruleAt_idx M h
  obtain ⟨w1, w2, w3⟩ := rule_in M hmem hn
  rw [run_rangeL (body := F_impl_TilingOfRun_L3 m (pl, k) ((A : Int), rowC c W A, out, c.State, k2) ((ruleAt m c).Write, (ruleAt m c).Move, (ruleAt m c).Next)) W (by omega) (fun a i => (a, i)) (fun i => [ixT (tilesM m s q) (tileA m (ruleAt m c) c W A i)]) 1 (fun _ _ => by simp) [] 0 (by simp) (fun i a hi ha => by
    have l1 : i < (rowC c W A).length := by rw [rowC_len]; exact hi
    have hm := hpl _ (tileA_mem M h hn (A := A) hi)
    have er : (⟨(ruleAt m c).Write, (ruleAt m c).Move, (ruleAt m c).Next⟩ : GRule) = ruleAt m c := rfl
    simp only [F_impl_TilingOfRun_L3, Int.ofNat_lt, l1, decide_true, cond_true, idx_nat l1, bnd_some_eq, F_impl_resting, er]
    rw [get_getD l1]
    rw [← hm]
    unfold tileA
    have d1 : decide ((i : Int) = (A : Int)) = decide (i = A) := by rw [decide_eq_decide]; omega
    rw [d1]
    by_cases hiA : i = A
    · rw [decide_eq_true hiA, cond_true, if_pos hiA, impl_leaving, bnd_some_eq, app_ok (by simp; omega), bnd_some_eq]
    · rw [decide_eq_false hiA, cond_false, if_neg hiA, w64_in (n := (A : Int) + (ruleAt m c).Move) (by have := ha; simp at this; omega) (by have := ha; simp at this; omega)]
      by_cases hB : (i : Int) = A + (ruleAt m c).Move
      · rw [decide_eq_true hB, cond_true, if_pos hB]
        have ecom : ∀ x : Int, F_impl_coming m (ruleAt m c).Move (ruleAt m c).Next x = some (cond (decide ((ruleAt m c).Move = 1)) ⟨w64 (1 + w64 (2 * (ruleAt m c).Next)), x, 0, headC m (ruleAt m c).Next x⟩ ⟨0, x, w64 (2 + w64 (2 * (ruleAt m c).Next)), headC m (ruleAt m c).Next x⟩) := by
          intro x
          unfold F_impl_coming F_impl_headColor F_impl_passes
          cases decide ((ruleAt m c).Move = 1) <;> rfl
        rw [ecom, bnd_some_eq, app_ok (by simp; omega), bnd_some_eq]
      · rw [decide_eq_false hB, cond_false, if_neg hB, app_ok (by simp; omega), bnd_some_eq])]
  rw [run_done (x := .brk ([] ++ (List.range W).flatMap fun i => [ixT (tilesM m s q) (tileA m (ruleAt m c) c W A i)], (W : Int))) (by simp [F_impl_TilingOfRun_L3, rowC_len])]
  rw [List.nil_append, ← List.map_eq_flatMap]
  rfl
theorem impl_isRule (r : GRule) : F_impl_isRule r = some (!decide (r = noR)) := rfl
theorem impl_runT {m : GMachine} {s q : Nat} (M : MaI m s q) {pl : List (GTile × Int)} (hpl : ∀ t ∈ tilesM m s q, (mget pl t).getD 0 = ixT (tilesM m s q) t) {W : Nat} (hW : W ≤ 30) (k : Int) (T : Nat) (hT : T ≤ 1000000) : ∀ (n A N : Nat) (c : GConfig) (out : List (List Int)), CfI s q N c → N + 2 * n ≤ 1000 → A < W → out.length + n ≤ 40 → n ≤ T →
    bnd (run (F_impl_TilingOfRun_L2 m (W : Int) (T : Int) (pl, k)) ((A : Int), rowC c W A, out, c.State, ((T - n : Nat) : Int))) (Out.elim (fun (s36 : Int × (List Int) × (List (List Int)) × Int × Int) => some (s36.2.2.1, (0 : Int))) (fun (r : (List (List Int)) × Int) => some r)) = some (goT m (tilesM m s q) W n A c out)
  | 0, A, N, c, out, _, _, _, _, _ => by
    rw [run_done (x := .brk ((A : Int), rowC c W A, out, c.State, ((T - 0 : Nat) : Int))) (by simp [F_impl_TilingOfRun_L2])]
    rfl
  | n + 1, A, N, c, out, h, hN, hA, hout, hT' => by
    obtain ⟨hidx, hmem⟩ := ruleAt_idx M h
    have k0 : decide (((T - (n + 1) : Nat) : Int) < (T : Int)) = true := decide_eq_true (by omega)
    have l1 : A < (rowC c W A).length := by rw [rowC_len]; exact hA
    have g1 : (rowC c W A)[A] = c.Right.getD 0 0 := by rw [get_getD l1, rowC_getD c hA, if_neg (by omega), Nat.sub_self]
    have er : (⟨(ruleAt m c).Write, (ruleAt m c).Move, (ruleAt m c).Next⟩ : GRule) = ruleAt m c := rfl
    have e1 : w64 ((W : Int) - 1) = (W : Int) - 1 := w64_in (by omega) (by omega)
    by_cases hn : ruleAt m c = noR
    · rw [goT_stop (.inl hn), run_done (x := .ret ([], 6)) (by
        simp only [F_impl_TilingOfRun_L2, k0, cond_true, idx_nat l1, bnd_some_eq, g1, hidx, Out.elim, er, impl_isRule, decide_eq_true hn]
        rfl)]
      rfl
    obtain ⟨w1, w2, w3⟩ := rule_in M hmem hn
    have e2 : w64 ((A : Int) + (ruleAt m c).Move) = (A : Int) + (ruleAt m c).Move := w64_in (by omega) (by omega)
    by_cases hin : 0 ≤ (A : Int) + (ruleAt m c).Move ∧ (A : Int) + (ruleAt m c).Move ≤ W - 1
    · obtain ⟨B, hB⟩ : ∃ B : Nat, (B : Int) = (A : Int) + (ruleAt m c).Move := ⟨((A : Int) + (ruleAt m c).Move).toNat, by omega⟩
      have hBW : B < W := by omega
      have hst : (stepC (ruleAt m c) c).State = (ruleAt m c).Next := by unfold stepC; split <;> rfl
      have hrow : (rowC c W A).set A (ruleAt m c).Write = rowC (stepC (ruleAt m c) c) W B := by
        rcases w2 with e | e
        · obtain rfl : B = A + 1 := by omega
          exact (rowC_right _ c hBW e).symm
        · obtain rfl : A = B + 1 := by omega
          exact (rowC_left _ c hA e).symm
      rw [goT_next hn hB hBW]
      rw [run_next (s' := ((B : Int), rowC (stepC (ruleAt m c) c) W B, out ++ [rowTl m (tilesM m s q) (ruleAt m c) c W A], (stepC (ruleAt m c) c).State, ((T - n : Nat) : Int))) (by
        simp only [F_impl_TilingOfRun_L2, k0, cond_true, idx_nat l1, bnd_some_eq, g1, hidx, Out.elim, er, impl_isRule, decide_eq_false hn, Bool.not_false, Bool.not_true, cond_false, e2, e1, impl_in, inB_iff.2 hin]
        rw [impl_rowT M h hn hpl hW hA k _ out, bnd_some_eq]
        simp only [Out.elim]
        rw [app_ok (by simp; omega), bnd_some_eq, ← hB, Int.toNat_natCast, hrow, hst, w64_nat1 (by omega), show T - (n + 1) + 1 = T - n by omega])]
      exact impl_runT M hpl hW k T hT n B (N + 2) (stepC (ruleAt m c) c) _ (h.step w1 w3) (by omega) hBW (by simp; omega) (by omega)
    · rw [goT_stop (.inr hin), run_done (x := .ret ([], 6)) (by
        simp only [F_impl_TilingOfRun_L2, k0, cond_true, idx_nat l1, bnd_some_eq, g1, hidx, Out.elim, er, impl_isRule, decide_eq_false hn, Bool.not_false, Bool.not_true, cond_false, e2, e1, impl_in]
        rw [show inB ((A : Int) + (ruleAt m c).Move) 0 ((W : Int) - 1) = false by cases hc : inB ((A : Int) + (ruleAt m c).Move) 0 ((W : Int) - 1); rfl; exact absurd (inB_iff.1 hc) hin]
        rfl)]
      rfl
theorem confB_cfi {m : GMachine} {s q : Nat} (M : MaI m s q) {c : GConfig} (h : confB m c = true) : CfI s q 200 c := by
  have hl := confB_len h
  unfold confB sideB at h
  simp only [Bool.and_eq_true, decide_eq_true_eq] at h
  have h1 := inB_iff.1 h.1
  have hs := M.hs
  have hq := M.hq
  have b1 := M.b1
  have side : ∀ xs : List Int, (xs.all fun x => inB x 0 (m.Symbols - 1)) = true → ∀ j, 0 ≤ xs.getD j 0 ∧ xs.getD j 0 < s := by
    intro xs hx j
    rw [List.getD_eq_getElem?_getD]
    cases hj : xs[j]? with
    | none => simp; omega
    | some y =>
      have := inB_iff.1 (List.all_eq_true.1 hx y (List.mem_of_getElem? hj))
      simp only [Option.getD_some]
      omega
  exact ⟨⟨c.State.toNat, by omega, by omega⟩, side _ h.2.1.1.2, side _ h.2.2.1.2, hl.1, hl.2.1⟩
theorem machB_mai {m : GMachine} (h : machB m = true) : ∃ s q, MaI m s q := by
  obtain ⟨s, q, hs, hq, b1, b2, b3, b4, hl, b5, hr⟩ := machB_nat h
  exact ⟨s, q, hs, hq, b1, b2, b3, b4, hl, b5, hr⟩
end Go.Fn
