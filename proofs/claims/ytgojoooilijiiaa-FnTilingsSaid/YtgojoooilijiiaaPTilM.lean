/-
  The tilings over a row of a machine: its run alone. No program in sight. No condition.
-/
import Derived.Test.YtgojoooilijiiaaPTilS
namespace Go.Fn
open Go Go.Tc
/-! ### Where a place stands -/
def underR (ts : List GTile) (bs P : List Int) (x : Nat) : Int := if P.length = 0 then bs.getD x 0 else (tAt ts (P.getD (P.length - bs.length + x) 0)).Top
def leftR (ts : List GTile) (cur : List Int) : Int := if 0 < cur.length then (tAt ts (cur.getD (cur.length - 1) 0)).Right else 0
theorem getD_app_l {P Q : List Int} {j : Nat} (h : j < P.length) : (P ++ Q).getD j 0 = P.getD j 0 := by
  rw [List.getD_eq_getElem?_getD, List.getD_eq_getElem?_getD, List.getElem?_append_left h]
theorem getD_app_r {P Q : List Int} {j : Nat} (h : P.length ≤ j) : (P ++ Q).getD j 0 = Q.getD (j - P.length) 0 := by
  rw [List.getD_eq_getElem?_getD, List.getD_eq_getElem?_getD, List.getElem?_append_right h]
theorem pos_mod {W y x : Nat} (hx : x < W) : (W * y + x) % W = x := by
  rw [Nat.mul_add_mod, Nat.mod_eq_of_lt hx]
theorem pos_left {ts : List GTile} {bs P cur : List Int} {y : Nat} (hP : P.length = bs.length * y) (hx : cur.length < bs.length) : leftT ts bs (P ++ cur) = leftR ts cur := by
  unfold leftT leftR
  rw [List.length_append, hP, pos_mod hx]
  by_cases h : 0 < cur.length
  · rw [if_pos h, if_pos h, getD_app_r (by omega), show bs.length * y + cur.length - 1 - P.length = cur.length - 1 by omega]
  · rw [if_neg h, if_neg h]
theorem pos_under {ts : List GTile} {bs P cur : List Int} {y : Nat} (hP : P.length = bs.length * y) (hx : cur.length < bs.length) : underT ts bs (P ++ cur) = underR ts bs P cur.length := by
  unfold underT underR
  rw [List.length_append]
  by_cases h : P.length = 0
  · rw [if_pos h, if_neg (by omega), h, Nat.zero_add, Nat.mod_eq_of_lt hx]
  · have hy : y ≠ 0 := fun e => h (by rw [hP, e, Nat.mul_zero])
    have : bs.length * 1 ≤ bs.length * y := Nat.mul_le_mul_left _ (by omega)
    rw [if_neg h, if_pos (by omega), getD_app_l (by omega), show P.length + cur.length - bs.length = P.length - bs.length + cur.length by omega]
theorem pos_last {bs P cur : List Int} {y : Nat} (hP : P.length = bs.length * y) (hx : cur.length < bs.length) : lastT bs (P ++ cur) = decide (cur.length + 1 = bs.length) := by
  unfold lastT
  rw [List.length_append, hP, pos_mod hx]
theorem fit_at {ts : List GTile} {bs P cur : List Int} {y : Nat} (hP : P.length = bs.length * y) (hx : cur.length < bs.length) (i : Nat) :
    fitB ts bs (P ++ cur) i = true ↔ (ts.getD i zT).Left = leftR ts cur ∧ (ts.getD i zT).Bottom = underR ts bs P cur.length ∧ (cur.length + 1 = bs.length → (ts.getD i zT).Right = 0) := by
  unfold fitB
  rw [pos_left hP hx, pos_under hP hx, pos_last hP hx]
  simp only [Bool.and_eq_true, Bool.or_eq_true, Bool.not_eq_true', decide_eq_true_eq, decide_eq_false_iff_not]
  constructor
  · rintro ⟨⟨h1, h2⟩, h3⟩
    exact ⟨h1, h2, fun e => h3.resolve_left (fun n => n e)⟩
  · rintro ⟨h1, h2, h3⟩
    refine ⟨⟨h1, h2⟩, ?_⟩
    by_cases e : cur.length + 1 = bs.length
    · exact .inr (h3 e)
    · exact .inl e
theorem leftR_snoc (ts : List GTile) (cur : List Int) (i : Nat) : leftR ts (cur ++ [(i : Int)]) = (ts.getD i zT).Right := by
  unfold leftR
  rw [if_pos (by simp), List.length_append, List.length_singleton, getD_app_r (by omega), show cur.length + 1 - 1 - cur.length = 0 by omega]
  rfl
theorem tAt_ix {ts : List GTile} {t : GTile} (h : t ∈ ts) : ∃ i : Nat, i < ts.length ∧ ixT ts t = (i : Int) ∧ ts.getD i zT = t := by
  unfold ixT
  cases hf : ts.findIdx? (fun x => decide (x = t)) with
  | none =>
    rw [List.findIdx?_eq_none_iff] at hf
    have := hf t h
    simp at this
  | some i =>
    rw [List.findIdx?_eq_some_iff_getElem] at hf
    obtain ⟨hlt, he, _⟩ := hf
    refine ⟨i, hlt, rfl, ?_⟩
    rw [List.getD_eq_getElem?_getD, List.getElem?_eq_getElem hlt]
    exact of_decide_eq_true he
theorem ix_uniq {ts : List GTile} (hn : ts.Nodup) {i j : Nat} (hi : i < ts.length) (hj : j < ts.length) (h : ts.getD i zT = ts.getD j zT) : i = j := by
  rw [List.getD_eq_getElem?_getD, List.getD_eq_getElem?_getD, List.getElem?_eq_getElem hi, List.getElem?_eq_getElem hj] at h
  exact (List.getElem?_inj hi hn).1 (by rw [List.getElem?_eq_getElem hi, List.getElem?_eq_getElem hj]; exact congrArg some h)
theorem getD_mem {ts : List GTile} {i : Nat} (hi : i < ts.length) : ts.getD i zT ∈ ts := by
  rw [List.getD_eq_getElem?_getD, List.getElem?_eq_getElem hi]
  exact List.getElem_mem hi

/-! ### The tiles of a machine -/
theorem mem_tiles {m : GMachine} {s q : Nat} (M : MaI m s q) {t : GTile} (h : t ∈ tilesM m s q) :
    (∃ a : Nat, a < s ∧ t = ⟨0, a, 0, a⟩) ∨
    (∃ p a : Nat, p < q ∧ a < s ∧ m.Rules.getD (p * s + a) noR ≠ noR ∧ t = if (m.Rules.getD (p * s + a) noR).Move = 1 then ⟨0, headC m p a, 1 + 2 * (m.Rules.getD (p * s + a) noR).Next, (m.Rules.getD (p * s + a) noR).Write⟩ else ⟨2 + 2 * (m.Rules.getD (p * s + a) noR).Next, headC m p a, 0, (m.Rules.getD (p * s + a) noR).Write⟩) ∨
    (∃ p a : Nat, p < q ∧ a < s ∧ (t = ⟨1 + 2 * (p : Int), a, 0, headC m p a⟩ ∨ t = ⟨0, a, 2 + 2 * (p : Int), headC m p a⟩)) := by
  have b4 := M.b4
  unfold tilesM at h
  rcases List.mem_append.1 h with h | h
  · rcases List.mem_append.1 h with h | h
    · obtain ⟨a, ha, h⟩ := List.mem_flatMap.1 h
      exact .inl ⟨a, List.mem_range.1 ha, List.mem_singleton.1 h⟩
    · obtain ⟨p, hp, h⟩ := List.mem_flatMap.1 h
      obtain ⟨a, ha, h⟩ := List.mem_flatMap.1 h
      have hp := List.mem_range.1 hp
      have ha := List.mem_range.1 ha
      refine .inr (.inl ⟨p, a, hp, ha, ?_⟩)
      unfold leaveT at h
      by_cases hn : m.Rules.getD (p * s + a) noR = noR
      · rw [decide_eq_true hn, cond_true] at h
        simp at h
      · rw [decide_eq_false hn, cond_false, List.mem_singleton] at h
        refine ⟨hn, ?_⟩
        have hlt : p * s + a < m.Rules.length := by rw [M.hl]; exact at_lt hp ha
        have hmem : m.Rules.getD (p * s + a) noR ∈ m.Rules := by
          rw [List.getD_eq_getElem?_getD, List.getElem?_eq_getElem hlt]
          exact List.getElem_mem hlt
        obtain ⟨_, _, w3⟩ := rule_in M hmem hn
        rw [h, w64_in (n := 2 * (m.Rules.getD (p * s + a) noR).Next) (by omega) (by omega), w64_in (n := 1 + 2 * (m.Rules.getD (p * s + a) noR).Next) (by omega) (by omega), w64_in (n := 2 + 2 * (m.Rules.getD (p * s + a) noR).Next) (by omega) (by omega)]
        by_cases h1 : (m.Rules.getD (p * s + a) noR).Move = 1
        · rw [decide_eq_true h1, cond_true, if_pos h1]
        · rw [decide_eq_false h1, cond_false, if_neg h1]
  · obtain ⟨p, hp, h⟩ := List.mem_flatMap.1 h
    obtain ⟨a, ha, h⟩ := List.mem_flatMap.1 h
    have hp := List.mem_range.1 hp
    refine .inr (.inr ⟨p, a, hp, List.mem_range.1 ha, ?_⟩)
    unfold comeT at h
    rw [w64_in (n := 2 * (p : Int)) (by omega) (by omega), w64_in (n := 1 + 2 * (p : Int)) (by omega) (by omega), w64_in (n := 2 + 2 * (p : Int)) (by omega) (by omega)] at h
    simpa using h
theorem head_ge {m : GMachine} {s q : Nat} (M : MaI m s q) {p a : Nat} (hp : p < q) (ha : a < s) : (s : Int) ≤ headC m p a := by
  rw [headC_eq M.hs M.b2 M.b4 hp ha, Nat.mul_add]
  omega
/-- Tiles over a plain color. -/
theorem over_plain {m : GMachine} {s q : Nat} (M : MaI m s q) {t : GTile} (h : t ∈ tilesM m s q) {b : Int} (hb : 0 ≤ b ∧ b < s) (ht : t.Bottom = b) :
    t = ⟨0, b, 0, b⟩ ∨ ∃ p : Nat, p < q ∧ (t = ⟨1 + 2 * (p : Int), b, 0, headC m p b⟩ ∨ t = ⟨0, b, 2 + 2 * (p : Int), headC m p b⟩) := by
  rcases mem_tiles M h with ⟨a, ha, rfl⟩ | ⟨p, a, hp, ha, hn, rfl⟩ | ⟨p, a, hp, ha, h⟩
  · simp only at ht
    subst ht
    exact .inl rfl
  · exfalso
    have hg := head_ge M hp ha
    split at ht <;> simp only at ht <;> omega
  · refine .inr ⟨p, hp, ?_⟩
    rcases h with rfl | rfl <;> simp only at ht <;> subst ht
    · exact .inl rfl
    · exact .inr rfl
/-- Tiles over a head. -/
theorem over_head {m : GMachine} {s q : Nat} (M : MaI m s q) {t : GTile} (h : t ∈ tilesM m s q) {p a : Nat} (hp : p < q) (ha : a < s) (ht : t.Bottom = headC m p a) :
    m.Rules.getD (p * s + a) noR ≠ noR ∧ t = if (m.Rules.getD (p * s + a) noR).Move = 1 then ⟨0, headC m p a, 1 + 2 * (m.Rules.getD (p * s + a) noR).Next, (m.Rules.getD (p * s + a) noR).Write⟩ else ⟨2 + 2 * (m.Rules.getD (p * s + a) noR).Next, headC m p a, 0, (m.Rules.getD (p * s + a) noR).Write⟩ := by
  have hg := head_ge M hp ha
  rcases mem_tiles M h with ⟨b, hb, rfl⟩ | ⟨p', a', hp', ha', hn, rfl⟩ | ⟨p', b, hp', hb, h⟩
  · simp only at ht
    omega
  · have e : headC m p' a' = headC m p a := by
      split at ht <;> exact ht
    obtain ⟨rfl, rfl⟩ := headC_inj M.hs M.b2 M.b4 hp' ha' hp ha e
    exact ⟨hn, rfl⟩
  · rcases h with rfl | rfl <;> simp only at ht <;> omega

/-! ### A row -/
def botR (m : GMachine) (c : GConfig) (W A : Nat) : List Int := (rowC c W A).set A (headC m c.State ((rowC c W A).getD A 0))
theorem botR_getD (m : GMachine) (c : GConfig) {W A x : Nat} (hA : A < W) (hx : x < W) : (botR m c W A).getD x 0 = if x = A then headC m c.State ((rowC c W A).getD A 0) else (rowC c W A).getD x 0 := by
  unfold botR
  rw [set_getD (by rw [rowC_len]; exact hx)]
  by_cases h : A = x
  · rw [if_pos h, if_pos h.symm]
  · rw [if_neg h, if_neg (fun e => h e.symm)]
/-- What is known at a row's start. -/
structure RowI (m : GMachine) (s q : Nat) (bs P : List Int) (c : GConfig) (A p a : Nat) : Prop where
  M : MaI m s q
  y : ∃ y, P.length = bs.length * y
  hA : A < bs.length
  und : ∀ x, x < bs.length → underR (tilesM m s q) bs P x = (botR m c bs.length A).getD x 0
  rw : ∀ x, x < bs.length → 0 ≤ (rowC c bs.length A).getD x 0 ∧ (rowC c bs.length A).getD x 0 < s
  st : c.State = p
  hp : p < q
  sy : (rowC c bs.length A).getD A 0 = a
  ha : a < s
theorem RowI.plain {m : GMachine} {s q : Nat} {bs P : List Int} {c : GConfig} {A p a : Nat} (R : RowI m s q bs P c A p a) {x : Nat} (hx : x < bs.length) (h : x ≠ A) : underR (tilesM m s q) bs P x = (rowC c bs.length A).getD x 0 := by
  rw [R.und x hx, botR_getD m c R.hA hx, if_neg h]
theorem RowI.head {m : GMachine} {s q : Nat} {bs P : List Int} {c : GConfig} {A p a : Nat} (R : RowI m s q bs P c A p a) : underR (tilesM m s q) bs P A = headC m p a := by
  rw [R.und A R.hA, botR_getD m c R.hA R.hA, if_pos rfl, R.st, R.sy]
theorem not_true {b : Bool} (h : ¬ b = true) : b = false := by simpa using h
/-- Nobody follows a tile that sends a head to the right, but over the head that goes left. -/
theorem dead_right {m : GMachine} {s q : Nat} {bs P : List Int} {c : GConfig} {A p a : Nat} (R : RowI m s q bs P c A p a) {cur : List Int} (hx : cur.length < bs.length) {k : Nat} (hl : leftR (tilesM m s q) cur = 2 + 2 * (k : Int))
    (h : cur.length = A → m.Rules.getD (p * s + a) noR = noR ∨ (m.Rules.getD (p * s + a) noR).Move = 1 ∨ (m.Rules.getD (p * s + a) noR).Next ≠ k) : deadT (tilesM m s q) bs (P ++ cur) := by
  obtain ⟨y, hP⟩ := R.y
  intro i hi
  refine not_true fun hf => ?_
  obtain ⟨h1, h2, _⟩ := (fit_at hP hx i).1 hf
  rw [hl] at h1
  by_cases hA : cur.length = A
  · rw [hA, R.head] at h2
    obtain ⟨hn, e⟩ := over_head R.M (getD_mem hi) R.hp R.ha h2
    rw [e] at h1
    rcases h hA with h | h | h
    · exact hn h
    · rw [if_pos h] at h1
      simp only at h1
      omega
    · split at h1
      · simp only at h1
        omega
      · simp only at h1
        omega
  · rw [R.plain hx hA] at h2
    have hr := R.rw _ hx
    rcases over_plain R.M (getD_mem hi) hr h2 with e | ⟨p', _, e | e⟩ <;> rw [e] at h1 <;> simp only at h1 <;> omega
/-- Nobody stands over a head that does not go right, where nothing comes. -/
theorem dead_head {m : GMachine} {s q : Nat} {bs P : List Int} {c : GConfig} {A p a : Nat} (R : RowI m s q bs P c A p a) {cur : List Int} (hx : cur.length = A) (hl : leftR (tilesM m s q) cur = 0)
    (h : m.Rules.getD (p * s + a) noR = noR ∨ (m.Rules.getD (p * s + a) noR).Move ≠ 1 ∨ A + 1 = bs.length) : deadT (tilesM m s q) bs (P ++ cur) := by
  obtain ⟨y, hP⟩ := R.y
  have hA := R.hA
  intro i hi
  refine not_true fun hf => ?_
  obtain ⟨h1, h2, h3⟩ := (fit_at hP (by omega) i).1 hf
  rw [hl] at h1
  rw [hx, R.head] at h2
  obtain ⟨hn, e⟩ := over_head R.M (getD_mem hi) R.hp R.ha h2
  have hlt : p * s + a < m.Rules.length := by rw [R.M.hl]; exact at_lt R.hp R.ha
  have hmem : m.Rules.getD (p * s + a) noR ∈ m.Rules := by
    rw [List.getD_eq_getElem?_getD, List.getElem?_eq_getElem hlt]
    exact List.getElem_mem hlt
  obtain ⟨_, _, w3⟩ := rule_in R.M hmem hn
  rw [e] at h1 h3
  rcases h with h | h | h
  · exact hn h
  · rw [if_neg h] at h1
    simp only at h1
    omega
  · have h3 := h3 (by omega)
    split at h3
    · simp only at h3
      omega
    · rename_i h4
      rw [if_neg h4] at h1
      simp only at h1
      omega
/-- What is placed so far. -/
def curR (m : GMachine) (s q : Nat) (f : Nat → GTile) (x : Nat) : List Int := (List.range x).map fun i => ixT (tilesM m s q) (f i)
theorem curR_len (m : GMachine) (s q : Nat) (f : Nat → GTile) (x : Nat) : (curR m s q f x).length = x := by simp [curR]
theorem curR_succ (m : GMachine) (s q : Nat) (f : Nat → GTile) (x : Nat) : curR m s q f (x + 1) = curR m s q f x ++ [ixT (tilesM m s q) (f x)] := by
  unfold curR
  rw [List.range_succ, List.map_append]
  rfl
theorem curR_left {m : GMachine} {s q : Nat} {f : Nat → GTile} {x : Nat} (hf : ∀ i, i < x → f i ∈ tilesM m s q) : leftR (tilesM m s q) (curR m s q f x) = if 0 < x then (f (x - 1)).Right else 0 := by
  cases x with
  | zero => rfl
  | succ x =>
    obtain ⟨i, _, h2, h3⟩ := tAt_ix (hf x (by omega))
    rw [curR_succ, h2, leftR_snoc, h3, if_pos (by omega), Nat.add_sub_cancel]
def restA (c : GConfig) (W A : Nat) (x : Nat) : GTile := ⟨0, (rowC c W A).getD x 0, 0, (rowC c W A).getD x 0⟩
theorem rest_mem {m : GMachine} {s q : Nat} {x : Int} (h : 0 ≤ x ∧ x < s) : (⟨0, x, 0, x⟩ : GTile) ∈ tilesM m s q := by
  unfold tilesM
  refine List.mem_append_left _ (List.mem_append_left _ (List.mem_flatMap.2 ⟨x.toNat, List.mem_range.2 (by omega), ?_⟩))
  unfold restT
  rw [List.mem_singleton, show ((x.toNat : Nat) : Int) = x by omega]
/-- A row that cannot be. -/
theorem row_bad {m : GMachine} {s q : Nat} {bs P : List Int} {c : GConfig} {A p a : Nat} (R : RowI m s q bs P c A p a)
    (h : m.Rules.getD (p * s + a) noR = noR ∨ ((m.Rules.getD (p * s + a) noR).Move = -1 ∧ A = 0) ∨ ((m.Rules.getD (p * s + a) noR).Move = 1 ∧ A + 1 = bs.length)) (n : Nat) :
    ∀ (k x : Nat), x + k = A → solsT (tilesM m s q) bs (n + (bs.length - x)) (P ++ curR m s q (restA c bs.length A) x) = [] ∧ costT (tilesM m s q) bs (n + (bs.length - x)) (P ++ curR m s q (restA c bs.length A) x) ≤ k * (tilesM m s q).length := by
  obtain ⟨y, hP⟩ := R.y
  have hA := R.hA
  have hrest : ∀ i, i < bs.length → restA c bs.length A i ∈ tilesM m s q := fun i hi => rest_mem (R.rw i hi)
  intro k
  induction k with
  | zero =>
    intro x hx
    have hl := curR_len m s q (restA c bs.length A) x
    have hd : deadT (tilesM m s q) bs (P ++ curR m s q (restA c bs.length A) x) := by
      refine dead_head R (by omega) ?_ ?_
      · rw [curR_left (fun i hi => hrest i (by omega))]
        split <;> rfl
      · rcases h with h | ⟨h, _⟩ | ⟨_, h⟩
        · exact .inl h
        · exact .inr (.inl (by omega))
        · exact .inr (.inr h)
    have := dead_sols hd (n + (bs.length - x) - 1)
    rw [show n + (bs.length - x) - 1 + 1 = n + (bs.length - x) by omega] at this
    exact ⟨this.1, by rw [this.2]; exact Nat.zero_le _⟩
  | succ k ih =>
    intro x hx
    have hl := curR_len m s q (restA c bs.length A) x
    have hleft : leftR (tilesM m s q) (curR m s q (restA c bs.length A) x) = 0 := by
      rw [curR_left (fun i hi => hrest i (by omega))]
      split <;> rfl
    obtain ⟨i0, hi0, e1, e2⟩ := tAt_ix (hrest x (by omega))
    have hund : underR (tilesM m s q) bs P x = (rowC c bs.length A).getD x 0 := R.plain (by omega) (by omega)
    have hf : fitB (tilesM m s q) bs (P ++ curR m s q (restA c bs.length A) x) i0 = true := by
      rw [fit_at hP (by omega), e2, hleft, hl, hund]
      exact ⟨rfl, rfl, fun _ => rfl⟩
    have hstep := one_sols (n := n + (bs.length - (x + 1))) hi0 hf (fun i hi hne hfi => by
      obtain ⟨h1, h2, h3⟩ := (fit_at hP (by omega) i).1 hfi
      rw [hleft] at h1
      rw [hl, hund] at h2
      rw [hl] at h3
      rcases over_plain R.M (getD_mem hi) (R.rw x (by omega)) h2 with e | ⟨p', _, e | e⟩
      · exact absurd (ix_uniq (tiles_nodup R.M.hs R.M.b1 R.M.b2 R.M.b4) hi hi0 (by rw [e, e2]; rfl)) hne
      · rw [e] at h1
        simp only at h1
        omega
      · have hd : deadT (tilesM m s q) bs (P ++ (curR m s q (restA c bs.length A) x ++ [(i : Int)])) := by
          refine dead_right R (k := p') (by rw [List.length_append, List.length_singleton]; omega) (by rw [leftR_snoc, e]) fun hxA => ?_
          rw [List.length_append, List.length_singleton] at hxA
          rcases h with h | ⟨_, h⟩ | ⟨h, _⟩
          · exact .inl h
          · omega
          · exact .inr (.inl h)
        have := dead_sols hd (n + (bs.length - (x + 1)) - 1)
        rw [show n + (bs.length - (x + 1)) - 1 + 1 = n + (bs.length - (x + 1)) by omega, ← List.append_assoc] at this
        exact this)
    have hi := ih (x + 1) (by omega)
    rw [curR_succ, e1, ← List.append_assoc] at hi
    rw [show n + (bs.length - x) = n + (bs.length - (x + 1)) + 1 by omega]
    refine ⟨hstep.1.trans hi.1, Nat.le_trans hstep.2 ?_⟩
    rw [Nat.succ_mul]
    omega
end Go.Fn
