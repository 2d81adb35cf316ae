/-
  Plain laws on the plain functions: loops, rows, copies. No program in sight. No condition.
-/
import Derived.Test.YtfklpjdenigohaaLift
namespace Go.Tc
open Go

/-- A loop ends with an answer of which Q holds: an invariant and a measure. -/
theorem run_inv {S X : Type} {body : S → Option (S ⊕ X)} (I : S → Prop) (Q : X → Prop) (m : S → Nat)
    (h : ∀ s, I s → (∃ s', body s = some (.inl s') ∧ I s' ∧ m s' < m s) ∨ (∃ x, body s = some (.inr x) ∧ Q x)) : ∀ s, I s → ∃ x, run body s = some x ∧ Q x := by
  have key : ∀ k s, m s < k → I s → ∃ x, run body s = some x ∧ Q x := by
    intro k
    induction k with
    | zero => intro s hs; omega
    | succ k ih =>
      intro s hs hI
      rcases h s hI with ⟨s', hb, hI', hm⟩ | ⟨x, hb, hq⟩
      · obtain ⟨x, hx, hq⟩ := ih s' (by omega) hI'
        exact ⟨x, by rw [run_unfold, hb]; exact hx, hq⟩
      · exact ⟨x, by rw [run_unfold, hb], hq⟩
  exact fun s hI => key _ s (Nat.lt_succ_self _) hI
/-- A loop's answer: the same, the answer told. -/
theorem run_eq {S X : Type} {body : S → Option (S ⊕ X)} (I : S → Prop) (x : X) (m : S → Nat)
    (h : ∀ s, I s → (∃ s', body s = some (.inl s') ∧ I s' ∧ m s' < m s) ∨ body s = some (.inr x)) (s : S) (hs : I s) : run body s = some x := by
  obtain ⟨y, hy, rfl⟩ := run_inv I (· = x) m (fun s hI => (h s hI).imp id fun hb => ⟨x, hb, rfl⟩) s hs
  exact hy
theorem run_next {S X : Type} {body : S → Option (S ⊕ X)} {s s' : S} (h : body s = some (.inl s')) : run body s = run body s' := by
  rw [run_unfold, h]
theorem run_done {S X : Type} {body : S → Option (S ⊕ X)} {s : S} {x : X} (h : body s = some (.inr x)) : run body s = some x := by
  rw [run_unfold, h]

/-- A plain loop over 0, 1, .. n-1. -/
def forN {σ X : Type} (f : Nat → σ → Option (σ ⊕ X)) : Nat → Nat → σ → Option (σ ⊕ X)
  | 0, _, a => some (.inl a)
  | k + 1, i, a => match f i a with
    | none => none
    | some (.inl a') => forN f k (i + 1) a'
    | some (.inr x) => some (.inr x)
/-- A loop with a counter is the plain loop, then what follows. -/
theorem run_for {σ S X : Type} {body : S → Option (S ⊕ X)} (st : Nat → σ → S) (f : Nat → σ → Option (σ ⊕ X)) (n : Nat)
    (h : ∀ i a, i < n → body (st i a) = match f i a with | none => none | some (.inl a') => some (.inl (st (i + 1) a')) | some (.inr x) => some (.inr x)) :
    ∀ k i a, i + k = n → run body (st i a) = match forN f k i a with | none => none | some (.inl a') => run body (st n a') | some (.inr x) => some x := by
  intro k
  induction k with
  | zero => intro i a hi; simp [forN, show i = n by omega]
  | succ k ih =>
    intro i a hi
    rw [run_unfold, h i a (by omega)]
    unfold forN
    cases hf : f i a with
    | none => rfl
    | some y =>
      cases y with
      | inl a' => exact ih (i + 1) a' (by omega)
      | inr x => rfl

theorem idx_nat {α : Type} {xs : List α} {i : Nat} (h : i < xs.length) : idx xs (i : Int) = some xs[i] := by
  unfold idx
  rw [if_neg (by omega)]
  simp [h]
theorem idx_int {α : Type} {xs : List α} {i : Int} (h0 : 0 ≤ i) (h : i < xs.length) : idx xs i = some (xs[i.toNat]'(by omega)) := by
  unfold idx
  rw [if_neg (by omega), List.getElem?_eq_getElem]
theorem w64_nat1 {i : Nat} (h : i < 4611686018427387904) : w64 ((i : Int) + 1) = ((i + 1 : Nat) : Int) := by
  rw [w64_in (by omega) (by omega)]
  omega
theorem mke_nat {α : Type} {n : Nat} {z : α} (h : n ≤ 1048576) : mke (n : Int) z = some (List.replicate n z) := by
  unfold mke
  rw [if_pos (by omega)]
  simp
theorem app_ok {α : Type} {xs ys : List α} (h : xs.length + ys.length ≤ 1099511627776) : app xs ys = some (xs ++ ys) := by
  unfold app lim
  rw [if_pos h]
theorem slc_ok {α : Type} {xs : List α} {lo hi : Nat} (h1 : lo ≤ hi) (h2 : hi ≤ xs.length) : slc xs lo hi = some ((xs.take hi).drop lo) := by
  unfold slc
  rw [if_pos (by omega)]
  simp

/-- A loop over the places of a row that ends early with b, or goes through. -/
theorem run_all {X : Type} {body : Int → Option (Int ⊕ X)} (n : Nat) (hn : n ≤ 4611686018427387904) (p : Nat → Bool) (x y : X)
    (h1 : ∀ i : Nat, i < n → p i = true → body i = some (.inl (w64 (i + 1)))) (h2 : ∀ i : Nat, i < n → p i = false → body i = some (.inr x)) (h3 : body n = some (.inr y)) :
    run body 0 = some (if ∀ i, i < n → p i = true then y else x) := by
  have key : ∀ k i, i + k = n → (∀ j, j < i → p j = true) → run body (i : Int) = some (if ∀ i, i < n → p i = true then y else x) := by
    intro k
    induction k with
    | zero =>
      intro i hi hp
      obtain rfl : i = n := by omega
      rw [run_unfold, h3, if_pos hp]
    | succ k ih =>
      intro i hi hp
      cases hpi : p i with
      | true =>
        rw [run_next (h1 i (by omega) hpi), w64_nat1 (by omega)]
        refine ih (i + 1) (by omega) fun j hj => ?_
        by_cases e : j = i
        · subst e; exact hpi
        · exact hp j (by omega)
      | false =>
        rw [run_done (h2 i (by omega) hpi), if_neg]
        intro h
        have := h i (by omega)
        simp [hpi] at this
  exact key n 0 (by omega) (fun j hj => by omega)

/-- A row copied place by place. -/
theorem run_copy {α R : Type} {body : List α × Int → Option ((List α × Int) ⊕ Out (List α × Int) R)} (xs : List α) (hn : xs.length ≤ 1048576)
    (h1 : ∀ (acc : List α) (i : Nat) (hi : i < xs.length), acc.length = xs.length → body (acc, i) = some (.inl (acc.set i xs[i], w64 (i + 1))))
    (h2 : ∀ acc, body (acc, (xs.length : Int)) = some (.inr (.brk (acc, (xs.length : Int))))) (z : List α) (hz : z.length = xs.length) :
    run body (z, 0) = some (.brk (xs, (xs.length : Int))) := by
  have key : ∀ k i (acc : List α), i + k = xs.length → acc.length = xs.length → (∀ j, j < i → acc[j]? = xs[j]?) → run body (acc, (i : Int)) = some (.brk (xs, (xs.length : Int))) := by
    intro k
    induction k with
    | zero =>
      intro i acc hi hl hp
      obtain rfl : i = xs.length := by omega
      rw [run_done (h2 acc)]
      have : acc = xs := List.ext_getElem? fun j => by
        by_cases hj : j < xs.length
        · exact hp j hj
        · rw [List.getElem?_eq_none (by omega), List.getElem?_eq_none (by omega)]
      rw [this]
    | succ k ih =>
      intro i acc hi hl hp
      rw [run_next (h1 acc i (by omega) hl), w64_nat1 (by omega)]
      refine ih (i + 1) _ (by omega) (by simpa using hl) fun j hj => ?_
      rw [List.getElem?_set]
      by_cases e : i = j
      · subst e
        rw [if_pos rfl, if_pos (by omega), List.getElem?_eq_getElem (by omega)]
      · rw [if_neg e]
        exact hp j (by omega)
  exact key xs.length 0 z (by omega) hz (fun j hj => by omega)

/-- Rows of at most k places, throughout. The laws' size checks leave k = 1048576. -/
class Bdd (α : Type) where
  bd : Nat → α → Prop
  mono : ∀ {k k' : Nat} {x : α}, k ≤ k' → bd k x → bd k' x
instance : Bdd Int := ⟨fun _ _ => True, fun _ h => h⟩
instance : Bdd Bool := ⟨fun _ _ => True, fun _ h => h⟩
instance : Bdd ByteArray := ⟨fun k s => s.size ≤ k, fun h k => Nat.le_trans k h⟩
instance {α : Type} [Bdd α] : Bdd (List α) := ⟨fun k xs => xs.length ≤ k ∧ ∀ x ∈ xs, Bdd.bd k x, fun h k => ⟨Nat.le_trans k.1 h, fun x hx => Bdd.mono h (k.2 x hx)⟩⟩
def Sml {α : Type} [Bdd α] (x : α) : Prop := Bdd.bd 1048576 x
def Med {α : Type} [Bdd α] (x : α) : Prop := Bdd.bd 1099511627776 x
theorem Sml.med {α : Type} [Bdd α] {x : α} (h : Sml x) : Med x := Bdd.mono (by decide) h
theorem Sml.mem {α : Type} [Bdd α] {xs : List α} (h : Sml xs) {i : Nat} (hi : i < xs.length) : Sml xs[i] := h.2 _ (List.getElem_mem hi)
theorem Med.mem {α : Type} [Bdd α] {xs : List α} (h : Med xs) {i : Nat} (hi : i < xs.length) : Med xs[i] := h.2 _ (List.getElem_mem hi)

/-- What a size check answers. -/
def Szd {α : Type} [Bdd α] (x : α) (b : Int) (m : Option Int) : Prop := ∃ r, m = some r ∧ (r < 0 ∨ (0 ≤ r ∧ r ≤ b ∧ Sml x))
theorem sz_len {n : Nat} {b : Int} (hw : n ≤ maxLen) (hb0 : 0 ≤ b) (hb : b ≤ 1048576) : (decide (w64 (b - (n : Int)) < 0) = true) ∨ (decide (w64 (b - (n : Int)) < 0) = false ∧ w64 (b - (n : Int)) = b - n ∧ 0 ≤ b - (n : Int) ∧ n ≤ 1048576) := by
  have hm : maxLen ≤ 9223372036854775807 := by decide
  rw [w64_in (by omega) (by omega)]
  by_cases h : b - (n : Int) < 0
  · exact .inl (decide_eq_true h)
  · exact .inr ⟨decide_eq_false h, rfl, by omega, by omega⟩
theorem run_sz {α : Type} [Bdd α] {body : Int × Int → Option ((Int × Int) ⊕ Out (Int × Int) Int)} (xs : List α) (hn : xs.length ≤ 1048576) (g : α → Int → Option Int)
    (hg : ∀ x ∈ xs, ∀ b, 0 ≤ b → b ≤ 1048576 → Szd x b (g x b))
    (h1 : ∀ (i : Nat) (hi : i < xs.length) (l : Int), body (l, (i : Int)) = bnd (g xs[i] l) fun r => cond (decide (r < 0)) (some (.inr (.ret (-1)))) (some (.inl (r, w64 ((i : Int) + 1)))))
    (h2 : ∀ l : Int, body (l, (xs.length : Int)) = some (.inr (.brk (l, (xs.length : Int))))) (b : Int) (hb0 : 0 ≤ b) (hb : b ≤ 1048576) :
    Szd xs b (bnd (run body (b, 0)) (Out.elim (fun (s2 : Int × Int) => some s2.1) (fun (r : Int) => some r))) := by
  obtain ⟨o, ho, hq⟩ := run_inv (body := body) (fun s => ∃ j : Nat, s.2 = j ∧ j ≤ xs.length ∧ 0 ≤ s.1 ∧ s.1 ≤ b ∧ ∀ i (hi : i < xs.length), i < j → Sml xs[i])
    (fun o => o = .ret (-1) ∨ ∃ l, o = .brk (l, (xs.length : Int)) ∧ 0 ≤ l ∧ l ≤ b ∧ ∀ i (hi : i < xs.length), Sml xs[i]) (fun s => xs.length - s.2.toNat) (by
      rintro ⟨l, _⟩ ⟨j, rfl, hj, hl0, hlb, hs⟩
      simp only at hl0 hlb
      by_cases he : j = xs.length
      · subst he
        exact .inr ⟨_, h2 l, .inr ⟨l, rfl, hl0, hlb, fun i hi => hs i hi hi⟩⟩
      · have hlt : j < xs.length := by omega
        obtain ⟨r, hr, k⟩ := hg _ (List.getElem_mem hlt) l hl0 (by omega)
        rw [h1 j hlt l, hr, bnd_some_eq]
        rcases k with k | ⟨k0, kb, ks⟩
        · rw [decide_eq_true k]
          exact .inr ⟨_, rfl, .inl rfl⟩
        · rw [decide_eq_false (by omega)]
          refine .inl ⟨_, rfl, ⟨j + 1, w64_nat1 (by omega), by omega, k0, by omega, ?_⟩, ?_⟩
          · intro i hi hij
            by_cases e : i = j
            · subst e; exact ks
            · exact hs i hi (by omega)
          · show xs.length - (w64 ((j : Int) + 1)).toNat < xs.length - ((j : Int)).toNat
            rw [w64_nat1 (by omega)]
            omega) (b, 0) ⟨0, rfl, by omega, hb0, Int.le_refl _, fun i hi h => by omega⟩
  rw [ho]
  rcases hq with rfl | ⟨l, rfl, h0, hlb, hs⟩
  · exact ⟨-1, rfl, .inl (by decide)⟩
  · refine ⟨l, rfl, .inr ⟨h0, hlb, hn, fun x hx => ?_⟩⟩
    obtain ⟨i, hi, rfl⟩ := List.getElem_of_mem hx
    exact hs i hi
/-- A row laid beside itself. -/
theorem run_same {body : Int → Option (Int ⊕ Out Int Bool)} (n : Nat) (hn : n ≤ 1099511627776) (h1 : ∀ i : Nat, i < n → body i = some (.inl (w64 (i + 1)))) (h2 : body n = some (.inr (.brk (n : Int)))) :
    bnd (run body 0) (Out.elim (fun (_ : Int) => some true) (fun (r : Bool) => some r)) = some true := by
  rw [run_all n (by omega) (fun _ => true) (.ret false) (.brk (n : Int)) (fun i hi _ => h1 i hi) (fun i _ h => by simp at h) h2, if_pos (fun _ _ => rfl)]
  rfl
theorem szd_fail {α : Type} [Bdd α] {x : α} {b : Int} {m : Option Int} (h : m = some (-1)) : Szd x b m := ⟨-1, h, .inl (by decide)⟩
theorem all_places {α : Type} {xs : List α} {p : α → Bool} : (∀ i (hi : i < xs.length), p xs[i] = true) ↔ xs.all p = true := by
  rw [List.all_eq_true]
  constructor
  · intro h x hx
    obtain ⟨i, hi, rfl⟩ := List.getElem_of_mem hx
    exact h i hi
  · exact fun h i hi => h _ (List.getElem_mem hi)
/-- A loop over a row that asks each place. -/
theorem run_allp {X : Type} {α : Type} {body : Int → Option (Int ⊕ X)} (xs : List α) (hn : xs.length ≤ 4611686018427387904) (p : α → Bool) (x y : X)
    (h : ∀ (i : Nat) (hi : i < xs.length), body i = some (cond (p xs[i]) (.inl (w64 (i + 1))) (.inr x))) (h3 : body xs.length = some (.inr y)) :
    run body 0 = some (cond (xs.all p) y x) := by
  rw [run_all xs.length hn (fun i => (xs[i]?.map p).getD false) x y ?_ ?_ h3]
  · have e : (∀ i, i < xs.length → (xs[i]?.map p).getD false = true) ↔ xs.all p = true := by
      rw [← all_places]
      constructor
      · intro k i hi
        simpa [List.getElem?_eq_getElem hi] using k i hi
      · intro k i hi
        simpa [List.getElem?_eq_getElem hi] using k i hi
    split
    · rename_i k
      rw [e.1 k]; rfl
    · rename_i k
      have : xs.all p = false := by
        cases q : xs.all p
        · rfl
        · exact absurd (e.2 q) k
      rw [this]; rfl
  · intro i hi hp
    simp only [List.getElem?_eq_getElem hi, Option.map_some, Option.getD_some] at hp
    rw [h i hi, hp]; rfl
  · intro i hi hp
    simp only [List.getElem?_eq_getElem hi, Option.map_some, Option.getD_some] at hp
    rw [h i hi, hp]; rfl
def inB (x lo hi : Int) : Bool := decide (lo ≤ x) && decide (x ≤ hi)
/-- The first place whose datum is asked for. -/
theorem run_find {α : Type} {body : Int → Option (Int ⊕ Out Int Int)} (xs : List α) (hn : xs.length ≤ 4611686018427387904) (p : α → Bool)
    (h : ∀ (i : Nat) (hi : i < xs.length), body i = some (cond (p xs[i]) (.inr (.ret (i : Int))) (.inl (w64 (i + 1))))) (h3 : body xs.length = some (.inr (.brk (xs.length : Int)))) :
    bnd (run body 0) (Out.elim (fun (_ : Int) => some (-1)) (fun (r : Int) => some r)) = some (match xs.findIdx? p with | none => -1 | some i => (i : Int)) := by
  have key : ∀ k i, i + k = xs.length → bnd (run body (i : Int)) (Out.elim (fun (_ : Int) => some (-1)) (fun (r : Int) => some r)) = some (match (xs.drop i).findIdx? p with | none => -1 | some j => ((i + j : Nat) : Int)) := by
    intro k
    induction k with
    | zero =>
      intro i hi
      obtain rfl : i = xs.length := by omega
      rw [run_done h3, List.drop_length]
      rfl
    | succ k ih =>
      intro i hi
      have hlt : i < xs.length := by omega
      rw [List.drop_eq_getElem_cons hlt, List.findIdx?_cons]
      cases hp : p xs[i] with
      | true =>
        rw [run_done (by rw [h i hlt, hp]; rfl)]
        rfl
      | false =>
        rw [run_next (by rw [h i hlt, hp]; rfl), w64_nat1 (by omega), ih (i + 1) (by omega)]
        simp only [Bool.false_eq_true, if_false]
        cases (xs.drop (i + 1)).findIdx? p with
        | none => rfl
        | some j => simp only [Option.map_some]; congr 2; omega
  have := key xs.length 0 (by omega)
  rw [List.drop_zero] at this
  rw [show ((0 : Nat) : Int) = 0 from rfl] at this
  rw [this]
  cases xs.findIdx? p with
  | none => rfl
  | some j => simp
theorem find_any {α : Type} (xs : List α) (p : α → Bool) : decide (0 ≤ (match xs.findIdx? p with | none => (-1 : Int) | some i => (i : Int))) = xs.any p := by
  cases h : xs.findIdx? p with
  | none =>
    rw [List.findIdx?_eq_none_iff] at h
    have : xs.any p = false := by
      rw [List.any_eq_false]
      intro x hx
      simp [h x hx]
    rw [this]; rfl
  | some i =>
    have : xs.any p = true := by
      rw [List.findIdx?_eq_some_iff_getElem] at h
      obtain ⟨hi, hp, _⟩ := h
      exact List.any_eq_true.2 ⟨_, List.getElem_mem hi, hp⟩
    rw [this]
    simp

/-! ### Marks -/
/-- How many numbers a datum has that are marked. -/
class Cnt (α : Type) where
  cnt : α → Nat
instance : Cnt Int := ⟨fun _ => 1⟩
instance {α : Type} [Cnt α] : Cnt (List α) := ⟨fun xs => (xs.map Cnt.cnt).sum⟩
theorem cnt_ints (xs : List Int) : Cnt.cnt xs = xs.length := by
  show (xs.map (fun _ => 1)).sum = xs.length
  induction xs with
  | nil => rfl
  | cons x xs ih => simp [ih]; omega
theorem cnt_le {α : Type} [Cnt α] {xs : List α} {n m : Nat} (hl : xs.length ≤ n) (h : ∀ x ∈ xs, Cnt.cnt x ≤ m) : Cnt.cnt xs ≤ n * m := by
  refine Nat.le_trans ?_ (Nat.mul_le_mul_right m hl)
  show (xs.map Cnt.cnt).sum ≤ xs.length * m
  clear hl
  induction xs with
  | nil => simp
  | cons x xs ih =>
    simp only [List.map_cons, List.sum_cons, List.length_cons]
    have h1 := h x (by simp)
    have h2 := ih (fun y hy => h y (by simp [hy]))
    rw [Nat.add_mul]; omega
theorem idx_set {α : Type} {xs : List α} {i : Nat} {y : α} (h : i < xs.length) : idx (xs.set i y) (i : Int) = some y := by
  rw [idx_nat (by simpa using h)]
  simp
theorem w64_k1 {k : Int} (h0 : 0 ≤ k) (h : k + 1 ≤ 4611686018427387904) : w64 (k + 1) = k + 1 := w64_in (by omega) (by omega)
theorem run_marks {α : Type} [Cnt α] {mb : List α × Int × Int → Option ((List α × Int × Int) ⊕ Out (List α × Int × Int) (Int × List α))} {hb : List α → Int × Int → Option ((Int × Int) ⊕ Out (Int × Int) Int)}
    (p : α → Prop) (h1 : ∀ (acc : List α) (i : Nat) (hi : i < acc.length) (k : Int), p acc[i] → 0 ≤ k → k + (Cnt.cnt acc[i] : Int) ≤ 4611686018427387904 → ∃ y', mb (acc, k, (i : Int)) = some (.inl (acc.set i y', k + (Cnt.cnt acc[i] : Int), w64 ((i : Int) + 1))) ∧
      ∀ (ys : List α) (hi' : i < ys.length), ys[i] = y' → hb ys (k, (i : Int)) = some (.inl (k + (Cnt.cnt acc[i] : Int), w64 ((i : Int) + 1))))
    (h2 : ∀ (acc : List α) (k : Int), mb (acc, k, (acc.length : Int)) = some (.inr (.brk (acc, k, (acc.length : Int)))))
    (h3 : ∀ (ys : List α) (k : Int), hb ys (k, (ys.length : Int)) = some (.inr (.brk (k, (ys.length : Int)))))
    (xs : List α) (k : Int) (hn : xs.length ≤ 1099511627776) (hp : ∀ x ∈ xs, p x) (h0 : 0 ≤ k) (hk : k + (Cnt.cnt xs : Int) ≤ 4611686018427387904) :
    ∃ ys, bnd (run mb (xs, k, 0)) (Out.elim (fun (s : List α × Int × Int) => some (s.2.1, s.1)) (fun (r : Int × List α) => some r)) = some (k + (Cnt.cnt xs : Int), ys) ∧
      bnd (run (hb ys) (k, 0)) (Out.elim (fun (s : Int × Int) => some s.1) (fun (r : Int) => some r)) = some (k + (Cnt.cnt xs : Int)) := by
  have key : ∀ m i (acc : List α) (k : Int), i + m = acc.length → acc.length ≤ 1099511627776 → (∀ x ∈ acc.drop i, p x) → 0 ≤ k → k + (((acc.drop i).map Cnt.cnt).sum : Nat) ≤ 4611686018427387904 →
      ∃ ys : List α, ys.length = acc.length ∧ (∀ j, j < i → ys[j]? = acc[j]?) ∧ run mb (acc, k, (i : Int)) = some (.brk (ys, k + (((acc.drop i).map Cnt.cnt).sum : Nat), (acc.length : Int))) ∧
        run (hb ys) (k, (i : Int)) = some (.brk (k + (((acc.drop i).map Cnt.cnt).sum : Nat), (acc.length : Int))) := by
    intro m
    induction m with
    | zero =>
      intro i acc k hi hl hpa hk0 hks
      obtain rfl : i = acc.length := by omega
      refine ⟨acc, rfl, fun _ _ => rfl, ?_, ?_⟩
      · rw [run_done (h2 acc k)]; simp
      · rw [run_done (h3 acc k)]; simp
    | succ m ih =>
      intro i acc k hi hl hpa hk0 hks
      have hlt : i < acc.length := by omega
      have hd : ((acc.drop i).map Cnt.cnt).sum = Cnt.cnt acc[i] + ((acc.drop (i + 1)).map Cnt.cnt).sum := by
        rw [List.drop_eq_getElem_cons hlt, List.map_cons, List.sum_cons]
      rw [hd] at hks ⊢
      have hpi : p acc[i] := hpa _ (by rw [List.drop_eq_getElem_cons hlt]; exact List.mem_cons_self)
      obtain ⟨y', e1, e2⟩ := h1 acc i hlt k hpi hk0 (by omega)
      have hd2 : (acc.set i y').drop (i + 1) = acc.drop (i + 1) := by
        apply List.ext_getElem?
        intro j
        rw [List.getElem?_drop, List.getElem?_drop, List.getElem?_set_ne (by omega)]
      obtain ⟨ys, f1, f2, f3, f4⟩ := ih (i + 1) (acc.set i y') (k + (Cnt.cnt acc[i] : Int)) (by simp; omega) (by simpa using hl) (by rw [hd2]; intro x hx; exact hpa x (by rw [List.drop_eq_getElem_cons hlt]; exact List.mem_cons_of_mem _ hx)) (by omega) (by rw [hd2]; omega)
      rw [hd2] at f3 f4
      simp only [List.length_set] at f1 f3 f4
      refine ⟨ys, f1, fun j hj => ?_, ?_, ?_⟩
      · rw [f2 j (by omega), List.getElem?_set_ne (by omega)]
      · rw [run_next e1, w64_nat1 (by omega), f3, Int.natCast_add, Int.add_assoc]
      · have hiy : i < ys.length := by omega
        have hyi : ys[i] = y' := by
          have := f2 i (by omega)
          rw [List.getElem?_set_self hlt, List.getElem?_eq_getElem hiy] at this
          exact Option.some.inj this
        rw [run_next (e2 ys hiy hyi), w64_nat1 (by omega), f4, Int.natCast_add, Int.add_assoc]
  obtain ⟨ys, _, _, f3, f4⟩ := key xs.length 0 xs k (by omega) hn (by simpa using hp) h0 (by rw [List.drop_zero]; exact hk)
  refine ⟨ys, ?_, ?_⟩
  · have : run mb (xs, k, 0) = run mb (xs, k, ((0 : Nat) : Int)) := rfl
    rw [this, f3, List.drop_zero]
    rfl
  · have : run (hb ys) (k, 0) = run (hb ys) (k, ((0 : Nat) : Int)) := rfl
    rw [this, f4, List.drop_zero]
    rfl
theorem run_marks0 {α : Type} [Cnt α] {mb : List α × Int × Int → Option ((List α × Int × Int) ⊕ Out (List α × Int × Int) (Int × List α))}
    (p : α → Prop) (h1 : ∀ (acc : List α) (i : Nat) (hi : i < acc.length) (k : Int), p acc[i] → 0 ≤ k → k + (Cnt.cnt acc[i] : Int) ≤ 4611686018427387904 → ∃ y', mb (acc, k, (i : Int)) = some (.inl (acc.set i y', k + (Cnt.cnt acc[i] : Int), w64 ((i : Int) + 1))))
    (h2 : ∀ (acc : List α) (k : Int), mb (acc, k, (acc.length : Int)) = some (.inr (.brk (acc, k, (acc.length : Int)))))
    (xs : List α) (k : Int) (hn : xs.length ≤ 1099511627776) (hp : ∀ x ∈ xs, p x) (h0 : 0 ≤ k) (hk : k + (Cnt.cnt xs : Int) ≤ 4611686018427387904) :
    ∃ ys, bnd (run mb (xs, k, 0)) (Out.elim (fun (s : List α × Int × Int) => some (s.2.1, s.1)) (fun (r : Int × List α) => some r)) = some (k + (Cnt.cnt xs : Int), ys) := by
  have key : ∀ m i (acc : List α) (k : Int), i + m = acc.length → acc.length ≤ 1099511627776 → (∀ x ∈ acc.drop i, p x) → 0 ≤ k → k + (((acc.drop i).map Cnt.cnt).sum : Nat) ≤ 4611686018427387904 →
      ∃ ys : List α, run mb (acc, k, (i : Int)) = some (.brk (ys, k + (((acc.drop i).map Cnt.cnt).sum : Nat), (acc.length : Int))) := by
    intro m
    induction m with
    | zero =>
      intro i acc k hi hl hpa hk0 hks
      obtain rfl : i = acc.length := by omega
      refine ⟨acc, ?_⟩
      rw [run_done (h2 acc k)]; simp
    | succ m ih =>
      intro i acc k hi hl hpa hk0 hks
      have hlt : i < acc.length := by omega
      have hd : ((acc.drop i).map Cnt.cnt).sum = Cnt.cnt acc[i] + ((acc.drop (i + 1)).map Cnt.cnt).sum := by
        rw [List.drop_eq_getElem_cons hlt, List.map_cons, List.sum_cons]
      rw [hd] at hks ⊢
      have hpi : p acc[i] := hpa _ (by rw [List.drop_eq_getElem_cons hlt]; exact List.mem_cons_self)
      obtain ⟨y', e1⟩ := h1 acc i hlt k hpi hk0 (by omega)
      have hd2 : (acc.set i y').drop (i + 1) = acc.drop (i + 1) := by
        apply List.ext_getElem?
        intro j
        rw [List.getElem?_drop, List.getElem?_drop, List.getElem?_set_ne (by omega)]
      obtain ⟨ys, f3⟩ := ih (i + 1) (acc.set i y') (k + (Cnt.cnt acc[i] : Int)) (by simp; omega) (by simpa using hl) (by rw [hd2]; intro x hx; exact hpa x (by rw [List.drop_eq_getElem_cons hlt]; exact List.mem_cons_of_mem _ hx)) (by omega) (by rw [hd2]; omega)
      rw [hd2] at f3
      simp only [List.length_set] at f3
      exact ⟨ys, by rw [run_next e1, w64_nat1 (by omega), f3, Int.natCast_add, Int.add_assoc]⟩
  obtain ⟨ys, f3⟩ := key xs.length 0 xs k (by omega) hn (by simpa using hp) h0 (by rw [List.drop_zero]; exact hk)
  refine ⟨ys, ?_⟩
  have : run mb (xs, k, 0) = run mb (xs, k, ((0 : Nat) : Int)) := rfl
  rw [this, f3, List.drop_zero]
  rfl
end Go.Tc
