/-
  From the form's readings of arguments to the calculus's: what a law's statement asks is what its contract gives. No condition.
  Plain laws on the plain functions: loops, rows, copies. No program in sight. No condition.
  The closed facts of a row, one by one. No condition.
  A row turned round, as a plain loop. No condition.
  Elements struck out of a row, as plain loops. No condition.
-/
import Derived.Test.YtafjflnnkdbmdaaMost
import Derived.Deep.Slices
import Derived.Deep.Strs
import Derived.ProofKit
import Derived.Carry
import Derived.JoinedOf
namespace Go.Tc
open Go Go.RowKit

/-- What is known of every datum that came in: integers fit their kind, lists are no longer than can be. -/
class Wf (α : Type) where
  wf : α → Prop
def I64 (x : Int) : Prop := -9223372036854775808 ≤ x ∧ x ≤ 9223372036854775807
instance : Wf Int := ⟨I64⟩
instance : Wf Bool := ⟨fun _ => True⟩
instance : Wf ByteArray := ⟨fun s => s.size ≤ maxLen⟩
instance {α : Type} [Wf α] : Wf (List α) := ⟨fun xs => xs.length ≤ maxLen ∧ ∀ x ∈ xs, Wf.wf x⟩

def Tr (P : Program) (t : TypeId) (α : Type) [Rep α] [Wf α] : Prop :=
  ∀ (H : Type) (enc : TypeId × Value → H) (w : World) (base : Nat) (spare : Nat → Bool) (held : Bool) (fuel : Nat) (cs : List Value) (x : DataW H × List MemPlace),
    DataW.trod enc P w base spare held fuel t cs = some x → ∃ y : α, Rep.rdc nowhere w cs y ∧ Wf.wf y

variable {P : Program}
theorem tr_int {t : TypeId} (ht : P.underlying t = some (.int .i64)) : Tr P t Int := by
  intro H enc w base spare held fuel cs x h
  cases fuel with
  | zero => simp [DataW.trod] at h
  | succ n =>
    unfold DataW.trod at h
    rw [ht] at h
    split at h <;> simp_all
    rename_i k k' m e
    obtain ⟨⟨rfl, hw⟩, _⟩ := h
    subst e
    refine ⟨m, rfl, ?_⟩
    simpa [Wf.wf, I64, Lit.wf, IntKind.min, IntKind.max, IntKind.signed, IntKind.bits] using hw
instance {k : IntKind} : Wf (Ik k) := ⟨fun x => k.min ≤ x.val ∧ x.val ≤ k.max⟩
theorem cells?_some {w : World} {base : Nat} {a : Addr} {n : Nat} {cs : List Value} (h : w.cells? base a n = some cs) : cs.length = n ∧ ∀ j u, cs[j]? = some u → w.cell? (a.add j) = some u := by
  obtain ⟨_, h1, h2⟩ := World.cells?_some h
  refine ⟨h1, fun j u hj => ?_⟩
  have : j < n := by rw [← h1]; exact (List.getElem?_eq_some_iff.1 hj).1
  rw [h2 j this, hj]
theorem tr_slice {α : Type} [Rep α] [Wf α] {t e : TypeId} (ht : P.underlying t = some (.slice e)) (hs : P.cellsOf e = Rep.sz α) (he : Tr P e α) : Tr P t (List α) := by
  intro H enc w base spare held fuel cs x h
  rcases Go.Deep.open_slice ht h with ⟨rfl, _⟩ | ⟨a, len, cap, m, n, D, Pl, rfl, hb, hl, hm, hmm, _, hel⟩
  · exact ⟨[], ⟨_, rfl, RdS.nil⟩, by simp [Wf.wf]⟩
  have hlm : len ≤ m := by rw [hmm]; split <;> omega
  have key : ∀ k, k ≤ len → ∃ (ys : List α) (cells : List Value), ys.length = k ∧ RdL nowhere w cells ys ∧ (∀ y ∈ ys, Wf.wf y) ∧ ∀ j u, cells[j]? = some u → w.cell? (a.add j) = some u := by
    intro k
    induction k with
    | zero => intro _; exact ⟨[], [], rfl, rfl, by simp, by simp⟩
    | succ k ih =>
      intro hk
      obtain ⟨ys, cells, h1, h2, h3, h4⟩ := ih (by omega)
      obtain ⟨cs', hc, htr⟩ := hel k (by omega)
      obtain ⟨hcl, hcc⟩ := cells?_some hc
      obtain ⟨y, hy, hw⟩ := he H enc w base spare held n cs' _ htr
      have hlen := RdL.length _ _ h2
      refine ⟨ys ++ [y], cells ++ cs', by simp [h1], RdL.append _ _ _ _ h2 ⟨cs', [], by simp, hy, rfl⟩, ?_, ?_⟩
      · intro z hz
        rcases List.mem_append.1 hz with hz | hz
        · exact h3 z hz
        · simp at hz; subst hz; exact hw
      · intro j u hj
        by_cases hlt : j < cells.length
        · rw [List.getElem?_append_left hlt] at hj
          exact h4 j u hj
        · rw [List.getElem?_append_right (by omega)] at hj
          have := hcc _ _ hj
          rw [Go.Deep.add_add, hs] at this
          rw [hlen, h1] at this
          rw [hlen, h1] at hlt
          rwa [show k * Rep.sz α + (j - k * Rep.sz α) = j by omega] at this
  obtain ⟨ys, cells, h1, h2, h3, h4⟩ := key len (Nat.le_refl _)
  have hlm2 : len ≤ maxLen := Nat.le_trans hl hm
  refine ⟨ys, ⟨_, rfl, ?_⟩, by rw [h1]; exact hlm2, h3⟩
  by_cases h0 : len = 0
  · subst h0
    have : ys = [] := List.eq_nil_of_length_eq_zero h1
    subst this
    exact .inl ⟨rfl, some a, cap, rfl, by simp, hm⟩
  · have hcl := RdL.length _ _ h2
    have hpos : 0 < cells.length := by rw [hcl, h1]; exact Nat.mul_pos (by omega) Rep.pos
    obtain ⟨c0, hc0⟩ : ∃ c, cells[0]? = some c := ⟨cells[0], by simp [hpos]⟩
    have hca := h4 0 c0 hc0
    have hsp : a.spot = none := by
      simp only [Addr.add, if_true] at hca
      unfold World.cell? at hca
      split at hca
      · split at hca
        · simp at hca
        · rename_i hns; simpa using hns
      · simp at hca
    obtain ⟨b, off, sp⟩ := a
    simp only at hsp
    subst hsp
    refine .inr ⟨b, off, cap, cells, by rw [h1], fun h => h.elim, ?_, by rw [h1]; exact hl, hm, fun j u hj => by have := h4 j u hj; rwa [Addr.add_lit] at this, h2⟩
    have := h4 0 c0 hc0
    rw [Addr.add_lit] at this
    exact World.block_lt_of_cell? w _ this
theorem tr_field {α : Type} [Rep α] [Wf α] {H : Type} {enc : TypeId × Value → H} {w : World} {base : Nat} {spare : Nat → Bool} {held : Bool} {n : Nat} {cs : List Value} {fs : Array Field} {xs : List (DataW H × List MemPlace)}
    (hlen : xs.length = fs.size) (hf : ∀ (i : Nat) (f : Field), fs[i]? = some f → DataW.trod enc P w base spare held n f.type ((cs.drop f.offset).take (P.cellsOf f.type)) = xs[i]?)
    (i : Nat) {f : Field} (hfi : fs[i]? = some f) (ht : Tr P f.type α) (h1 : P.cellsOf f.type = 1) {c : Value} (hc : (cs.drop f.offset).take 1 = [c]) : ∃ y : α, Rep.rdc nowhere w [c] y ∧ Wf.wf y := by
  have h := hf i f hfi
  rw [h1, hc] at h
  have hi : i < xs.length := by
    rw [hlen]
    exact (Array.getElem?_eq_some_iff.1 hfi).1
  rw [List.getElem?_eq_getElem hi] at h
  exact ht H enc w base spare held n [c] _ h

theorem len4 {α : Type} {l : List α} (h : l.length = 4) : ∃ c0 c1 c2 c3, l = [c0, c1, c2, c3] := by
  match l, h with
  | [c0, c1, c2, c3], _ => exact ⟨c0, c1, c2, c3, rfl⟩
theorem len5 {α : Type} {l : List α} (h : l.length = 5) : ∃ c0 c1 c2 c3 c4, l = [c0, c1, c2, c3, c4] := by
  match l, h with
  | [c0, c1, c2, c3, c4], _ => exact ⟨c0, c1, c2, c3, c4, rfl⟩
/-- The shape of a value of the type t. -/
def Shp (P : Program) (t : TypeId) (α : Type) [Rep α] : Prop := ∀ (W : World) (base : Nat) (v : Value), Value.okWide P W .any base t v → v = Rep.val α v.cells.toList
open Go.WideShapes in
theorem shp_int {t : TypeId} (ht : P.underlying t = some (.int .i64)) : Shp P t Int := fun W base v h => by
  obtain ⟨n, rfl⟩ := okWide_int ht h
  rfl
open Go.WideShapes in
open Go.WideShapes in
open Go.WideShapes in
open Go.WideShapes in
theorem shp_slice {α : Type} [Rep α] {t e : TypeId} (ht : P.underlying t = some (.slice e)) : Shp P t (List α) := fun W base v h => by
  obtain ⟨a, l, c, rfl⟩ := okWide_slice ht h
  rfl
open Go.WideShapes in
theorem shp_struct {α : Type} [Rep α] {t : TypeId} {fs : Array Field} (ht : P.underlying t = some (.struct fs)) (ha : Rep.agg α = true) : Shp P t α := fun W base v h => by
  obtain ⟨cs, rfl, _⟩ := okWide_struct ht h
  unfold Rep.val
  rw [if_pos ha]
  simp [Value.cells]
theorem rd_of {α : Type} [Rep α] [Wf α] {t : TypeId} {H : Type} {enc : TypeId × Value → H} {W : World} {base b0 : Nat} {spare : Nat → Bool} {held : Bool} {v : Value} {d : DataW H} {ps : List MemPlace}
    (hs : Shp P t α) (htr : Tr P t α) (hv : Value.okWide P W .any b0 t v) (h : DataW.Trod enc P W base spare held t v d ps) : ∃ y : α, Rd nowhere W v y ∧ Wf.wf y := by
  obtain ⟨fuel, hf⟩ := h
  obtain ⟨y, hy, hw⟩ := htr H enc W base spare held fuel _ _ hf
  exact ⟨y, ⟨_, hs W b0 v hv, hy⟩, hw⟩
theorem walk_of {f : FuncId} {vs : List Value} {w : World} {b : Bool} (h : Con P f vs nowhere w (fun _ : Unit => .bool b) (fun _ => [])) (hb : b = true) :
    Calls P f vs.toArray w fun e w' => e = .returned (.bool true) ∧ Below w.heap.size w w' := by
  subst hb
  exact h.mono fun _ _ ⟨_, he, hk⟩ => ⟨he, hk.below⟩
end Go.Tc
namespace Go.Tc
open Go

/-- A loop ends with an answer of which Q holds: an invariant and a measure. -/
theorem run_inv {S X : Type} {body : S → Option (S ⊕ X)} (I : S → Prop) (Q : X → Prop) (m : S → Nat)
    (h : ∀ s, I s → (∃ s', body s = some (.inl s') ∧ I s' ∧ m s' < m s) ∨ (∃ x, body s = some (.inr x) ∧ Q x)) : ∀ s, I s → ∃ x, run body s = some x ∧ Q x := by
  have key : ∀ k s, m s < k → I s → ∃ x, run body s = some x ∧ Q x := by
    intro k
    induction k with
    | zero => intro s hs; omega
    | succ k ih =>
      intro s hs hI
      rcases h s hI with ⟨s', hb, hI', hm⟩ | ⟨x, hb, hq⟩
      · obtain ⟨x, hx, hq⟩ := ih s' (by omega) hI'
        exact ⟨x, by rw [run_unfold, hb]; exact hx, hq⟩
      · exact ⟨x, by rw [run_unfold, hb], hq⟩
  exact fun s hI => key _ s (Nat.lt_succ_self _) hI
theorem run_next {S X : Type} {body : S → Option (S ⊕ X)} {s s' : S} (h : body s = some (.inl s')) : run body s = run body s' := by
  rw [run_unfold, h]
theorem run_done {S X : Type} {body : S → Option (S ⊕ X)} {s : S} {x : X} (h : body s = some (.inr x)) : run body s = some x := by
  rw [run_unfold, h]

theorem idx_nat {α : Type} {xs : List α} {i : Nat} (h : i < xs.length) : idx xs (i : Int) = some xs[i] := by
  unfold idx
  rw [if_neg (by omega)]
  simp [h]
theorem w64_nat1 {i : Nat} (h : i < 4611686018427387904) : w64 ((i : Int) + 1) = ((i + 1 : Nat) : Int) := by
  rw [w64_in (by omega) (by omega)]
  omega
theorem mke_nat {α : Type} {n : Nat} {z : α} (h : n ≤ 1048576) : mke (n : Int) z = some (List.replicate n z) := by
  unfold mke
  rw [if_pos (by omega)]
  simp
theorem app_ok {α : Type} {xs ys : List α} (h : xs.length + ys.length ≤ 1099511627776) : app xs ys = some (xs ++ ys) := by
  unfold app lim
  rw [if_pos h]
theorem slc_ok {α : Type} {xs : List α} {lo hi : Nat} (h1 : lo ≤ hi) (h2 : hi ≤ xs.length) : slc xs lo hi = some ((xs.take hi).drop lo) := by
  unfold slc
  rw [if_pos (by omega)]
  simp

/-- A loop over the places of a row that ends early with b, or goes through. -/
theorem run_all {X : Type} {body : Int → Option (Int ⊕ X)} (n : Nat) (hn : n ≤ 4611686018427387904) (p : Nat → Bool) (x y : X)
    (h1 : ∀ i : Nat, i < n → p i = true → body i = some (.inl (w64 (i + 1)))) (h2 : ∀ i : Nat, i < n → p i = false → body i = some (.inr x)) (h3 : body n = some (.inr y)) :
    run body 0 = some (if ∀ i, i < n → p i = true then y else x) := by
  have key : ∀ k i, i + k = n → (∀ j, j < i → p j = true) → run body (i : Int) = some (if ∀ i, i < n → p i = true then y else x) := by
    intro k
    induction k with
    | zero =>
      intro i hi hp
      obtain rfl : i = n := by omega
      rw [run_unfold, h3, if_pos hp]
    | succ k ih =>
      intro i hi hp
      cases hpi : p i with
      | true =>
        rw [run_next (h1 i (by omega) hpi), w64_nat1 (by omega)]
        refine ih (i + 1) (by omega) fun j hj => ?_
        by_cases e : j = i
        · subst e; exact hpi
        · exact hp j (by omega)
      | false =>
        rw [run_done (h2 i (by omega) hpi), if_neg]
        intro h
        have := h i (by omega)
        simp [hpi] at this
  exact key n 0 (by omega) (fun j hj => by omega)

/-- A row copied place by place. -/
theorem run_copy {α R : Type} {body : List α × Int → Option ((List α × Int) ⊕ Out (List α × Int) R)} (xs : List α) (hn : xs.length ≤ 1048576)
    (h1 : ∀ (acc : List α) (i : Nat) (hi : i < xs.length), acc.length = xs.length → body (acc, i) = some (.inl (acc.set i xs[i], w64 (i + 1))))
    (h2 : ∀ acc, body (acc, (xs.length : Int)) = some (.inr (.brk (acc, (xs.length : Int))))) (z : List α) (hz : z.length = xs.length) :
    run body (z, 0) = some (.brk (xs, (xs.length : Int))) := by
  have key : ∀ k i (acc : List α), i + k = xs.length → acc.length = xs.length → (∀ j, j < i → acc[j]? = xs[j]?) → run body (acc, (i : Int)) = some (.brk (xs, (xs.length : Int))) := by
    intro k
    induction k with
    | zero =>
      intro i acc hi hl hp
      obtain rfl : i = xs.length := by omega
      rw [run_done (h2 acc)]
      have : acc = xs := List.ext_getElem? fun j => by
        by_cases hj : j < xs.length
        · exact hp j hj
        · rw [List.getElem?_eq_none (by omega), List.getElem?_eq_none (by omega)]
      rw [this]
    | succ k ih =>
      intro i acc hi hl hp
      rw [run_next (h1 acc i (by omega) hl), w64_nat1 (by omega)]
      refine ih (i + 1) _ (by omega) (by simpa using hl) fun j hj => ?_
      rw [List.getElem?_set]
      by_cases e : i = j
      · subst e
        rw [if_pos rfl, if_pos (by omega), List.getElem?_eq_getElem (by omega)]
      · rw [if_neg e]
        exact hp j (by omega)
  exact key xs.length 0 z (by omega) hz (fun j hj => by omega)

/-- Rows of at most k places, throughout. The laws' size checks leave k = 1048576. -/
class Bdd (α : Type) where
  bd : Nat → α → Prop
  mono : ∀ {k k' : Nat} {x : α}, k ≤ k' → bd k x → bd k' x
instance : Bdd Int := ⟨fun _ _ => True, fun _ h => h⟩
instance : Bdd Bool := ⟨fun _ _ => True, fun _ h => h⟩
instance : Bdd ByteArray := ⟨fun k s => s.size ≤ k, fun h k => Nat.le_trans k h⟩
instance {α : Type} [Bdd α] : Bdd (List α) := ⟨fun k xs => xs.length ≤ k ∧ ∀ x ∈ xs, Bdd.bd k x, fun h k => ⟨Nat.le_trans k.1 h, fun x hx => Bdd.mono h (k.2 x hx)⟩⟩
def Sml {α : Type} [Bdd α] (x : α) : Prop := Bdd.bd 1048576 x
def Med {α : Type} [Bdd α] (x : α) : Prop := Bdd.bd 1099511627776 x
theorem Sml.med {α : Type} [Bdd α] {x : α} (h : Sml x) : Med x := Bdd.mono (by decide) h
theorem Sml.mem {α : Type} [Bdd α] {xs : List α} (h : Sml xs) {i : Nat} (hi : i < xs.length) : Sml xs[i] := h.2 _ (List.getElem_mem hi)
theorem Med.mem {α : Type} [Bdd α] {xs : List α} (h : Med xs) {i : Nat} (hi : i < xs.length) : Med xs[i] := h.2 _ (List.getElem_mem hi)

/-- What a size check answers. -/
def Szd {α : Type} [Bdd α] (x : α) (b : Int) (m : Option Int) : Prop := ∃ r, m = some r ∧ (r < 0 ∨ (0 ≤ r ∧ r ≤ b ∧ Sml x))
theorem sz_len {n : Nat} {b : Int} (hw : n ≤ maxLen) (hb0 : 0 ≤ b) (hb : b ≤ 1048576) : (decide (w64 (b - (n : Int)) < 0) = true) ∨ (decide (w64 (b - (n : Int)) < 0) = false ∧ w64 (b - (n : Int)) = b - n ∧ 0 ≤ b - (n : Int) ∧ n ≤ 1048576) := by
  have hm : maxLen ≤ 9223372036854775807 := by decide
  rw [w64_in (by omega) (by omega)]
  by_cases h : b - (n : Int) < 0
  · exact .inl (decide_eq_true h)
  · exact .inr ⟨decide_eq_false h, rfl, by omega, by omega⟩
theorem run_sz {α : Type} [Bdd α] {body : Int × Int → Option ((Int × Int) ⊕ Out (Int × Int) Int)} (xs : List α) (hn : xs.length ≤ 1048576) (g : α → Int → Option Int)
    (hg : ∀ x ∈ xs, ∀ b, 0 ≤ b → b ≤ 1048576 → Szd x b (g x b))
    (h1 : ∀ (i : Nat) (hi : i < xs.length) (l : Int), body (l, (i : Int)) = bnd (g xs[i] l) fun r => cond (decide (r < 0)) (some (.inr (.ret (-1)))) (some (.inl (r, w64 ((i : Int) + 1)))))
    (h2 : ∀ l : Int, body (l, (xs.length : Int)) = some (.inr (.brk (l, (xs.length : Int))))) (b : Int) (hb0 : 0 ≤ b) (hb : b ≤ 1048576) :
    Szd xs b (bnd (run body (b, 0)) (Out.elim (fun (s2 : Int × Int) => some s2.1) (fun (r : Int) => some r))) := by
  obtain ⟨o, ho, hq⟩ := run_inv (body := body) (fun s => ∃ j : Nat, s.2 = j ∧ j ≤ xs.length ∧ 0 ≤ s.1 ∧ s.1 ≤ b ∧ ∀ i (hi : i < xs.length), i < j → Sml xs[i])
    (fun o => o = .ret (-1) ∨ ∃ l, o = .brk (l, (xs.length : Int)) ∧ 0 ≤ l ∧ l ≤ b ∧ ∀ i (hi : i < xs.length), Sml xs[i]) (fun s => xs.length - s.2.toNat) (by
      rintro ⟨l, _⟩ ⟨j, rfl, hj, hl0, hlb, hs⟩
      simp only at hl0 hlb
      by_cases he : j = xs.length
      · subst he
        exact .inr ⟨_, h2 l, .inr ⟨l, rfl, hl0, hlb, fun i hi => hs i hi hi⟩⟩
      · have hlt : j < xs.length := by omega
        obtain ⟨r, hr, k⟩ := hg _ (List.getElem_mem hlt) l hl0 (by omega)
        rw [h1 j hlt l, hr, bnd_some_eq]
        rcases k with k | ⟨k0, kb, ks⟩
        · rw [decide_eq_true k]
          exact .inr ⟨_, rfl, .inl rfl⟩
        · rw [decide_eq_false (by omega)]
          refine .inl ⟨_, rfl, ⟨j + 1, w64_nat1 (by omega), by omega, k0, by omega, ?_⟩, ?_⟩
          · intro i hi hij
            by_cases e : i = j
            · subst e; exact ks
            · exact hs i hi (by omega)
          · show xs.length - (w64 ((j : Int) + 1)).toNat < xs.length - ((j : Int)).toNat
            rw [w64_nat1 (by omega)]
            omega) (b, 0) ⟨0, rfl, by omega, hb0, Int.le_refl _, fun i hi h => by omega⟩
  rw [ho]
  rcases hq with rfl | ⟨l, rfl, h0, hlb, hs⟩
  · exact ⟨-1, rfl, .inl (by decide)⟩
  · refine ⟨l, rfl, .inr ⟨h0, hlb, hn, fun x hx => ?_⟩⟩
    obtain ⟨i, hi, rfl⟩ := List.getElem_of_mem hx
    exact hs i hi
/-- A row laid beside itself. -/
theorem run_same {body : Int → Option (Int ⊕ Out Int Bool)} (n : Nat) (hn : n ≤ 1099511627776) (h1 : ∀ i : Nat, i < n → body i = some (.inl (w64 (i + 1)))) (h2 : body n = some (.inr (.brk (n : Int)))) :
    bnd (run body 0) (Out.elim (fun (_ : Int) => some true) (fun (r : Bool) => some r)) = some true := by
  rw [run_all n (by omega) (fun _ => true) (.ret false) (.brk (n : Int)) (fun i hi _ => h1 i hi) (fun i _ h => by simp at h) h2, if_pos (fun _ _ => rfl)]
  rfl
theorem szd_fail {α : Type} [Bdd α] {x : α} {b : Int} {m : Option Int} (h : m = some (-1)) : Szd x b m := ⟨-1, h, .inl (by decide)⟩
theorem all_places {α : Type} {xs : List α} {p : α → Bool} : (∀ i (hi : i < xs.length), p xs[i] = true) ↔ xs.all p = true := by
  rw [List.all_eq_true]
  constructor
  · intro h x hx
    obtain ⟨i, hi, rfl⟩ := List.getElem_of_mem hx
    exact h i hi
  · exact fun h i hi => h _ (List.getElem_mem hi)
/-- A loop over a row that asks each place. -/
theorem run_allp {X : Type} {α : Type} {body : Int → Option (Int ⊕ X)} (xs : List α) (hn : xs.length ≤ 4611686018427387904) (p : α → Bool) (x y : X)
    (h : ∀ (i : Nat) (hi : i < xs.length), body i = some (cond (p xs[i]) (.inl (w64 (i + 1))) (.inr x))) (h3 : body xs.length = some (.inr y)) :
    run body 0 = some (cond (xs.all p) y x) := by
  rw [run_all xs.length hn (fun i => (xs[i]?.map p).getD false) x y ?_ ?_ h3]
  · have e : (∀ i, i < xs.length → (xs[i]?.map p).getD false = true) ↔ xs.all p = true := by
      rw [← all_places]
      constructor
      · intro k i hi
        simpa [List.getElem?_eq_getElem hi] using k i hi
      · intro k i hi
        simpa [List.getElem?_eq_getElem hi] using k i hi
    split
    · rename_i k
      rw [e.1 k]; rfl
    · rename_i k
      have : xs.all p = false := by
        cases q : xs.all p
        · rfl
        · exact absurd (e.2 q) k
      rw [this]; rfl
  · intro i hi hp
    simp only [List.getElem?_eq_getElem hi, Option.map_some, Option.getD_some] at hp
    rw [h i hi, hp]; rfl
  · intro i hi hp
    simp only [List.getElem?_eq_getElem hi, Option.map_some, Option.getD_some] at hp
    rw [h i hi, hp]; rfl
def inB (x lo hi : Int) : Bool := decide (lo ≤ x) && decide (x ≤ hi)
/-- The first place whose datum is asked for. -/
theorem run_find {α : Type} {body : Int → Option (Int ⊕ Out Int Int)} (xs : List α) (hn : xs.length ≤ 4611686018427387904) (p : α → Bool)
    (h : ∀ (i : Nat) (hi : i < xs.length), body i = some (cond (p xs[i]) (.inr (.ret (i : Int))) (.inl (w64 (i + 1))))) (h3 : body xs.length = some (.inr (.brk (xs.length : Int)))) :
    bnd (run body 0) (Out.elim (fun (_ : Int) => some (-1)) (fun (r : Int) => some r)) = some (match xs.findIdx? p with | none => -1 | some i => (i : Int)) := by
  have key : ∀ k i, i + k = xs.length → bnd (run body (i : Int)) (Out.elim (fun (_ : Int) => some (-1)) (fun (r : Int) => some r)) = some (match (xs.drop i).findIdx? p with | none => -1 | some j => ((i + j : Nat) : Int)) := by
    intro k
    induction k with
    | zero =>
      intro i hi
      obtain rfl : i = xs.length := by omega
      rw [run_done h3, List.drop_length]
      rfl
    | succ k ih =>
      intro i hi
      have hlt : i < xs.length := by omega
      rw [List.drop_eq_getElem_cons hlt, List.findIdx?_cons]
      cases hp : p xs[i] with
      | true =>
        rw [run_done (by rw [h i hlt, hp]; rfl)]
        rfl
      | false =>
        rw [run_next (by rw [h i hlt, hp]; rfl), w64_nat1 (by omega), ih (i + 1) (by omega)]
        simp only [Bool.false_eq_true, if_false]
        cases (xs.drop (i + 1)).findIdx? p with
        | none => rfl
        | some j => simp only [Option.map_some]; congr 2; omega
  have := key xs.length 0 (by omega)
  rw [List.drop_zero] at this
  rw [show ((0 : Nat) : Int) = 0 from rfl] at this
  rw [this]
  cases xs.findIdx? p with
  | none => rfl
  | some j => simp
/-- How many numbers a datum has that are marked. -/
class Cnt (α : Type) where
  cnt : α → Nat
instance : Cnt Int := ⟨fun _ => 1⟩
instance {α : Type} [Cnt α] : Cnt (List α) := ⟨fun xs => (xs.map Cnt.cnt).sum⟩
theorem cnt_le {α : Type} [Cnt α] {xs : List α} {n m : Nat} (hl : xs.length ≤ n) (h : ∀ x ∈ xs, Cnt.cnt x ≤ m) : Cnt.cnt xs ≤ n * m := by
  refine Nat.le_trans ?_ (Nat.mul_le_mul_right m hl)
  show (xs.map Cnt.cnt).sum ≤ xs.length * m
  clear hl
  induction xs with
  | nil => simp
  | cons x xs ih =>
    simp only [List.map_cons, List.sum_cons, List.length_cons]
    have h1 := h x (by simp)
    have h2 := ih (fun y hy => h y (by simp [hy]))
    rw [Nat.add_mul]; omega
theorem idx_set {α : Type} {xs : List α} {i : Nat} {y : α} (h : i < xs.length) : idx (xs.set i y) (i : Int) = some y := by
  rw [idx_nat (by simpa using h)]
  simp
theorem w64_k1 {k : Int} (h0 : 0 ≤ k) (h : k + 1 ≤ 4611686018427387904) : w64 (k + 1) = k + 1 := w64_in (by omega) (by omega)
theorem run_marks {α : Type} [Cnt α] {mb : List α × Int × Int → Option ((List α × Int × Int) ⊕ Out (List α × Int × Int) (Int × List α))} {hb : List α → Int × Int → Option ((Int × Int) ⊕ Out (Int × Int) Int)}
    (p : α → Prop) (h1 : ∀ (acc : List α) (i : Nat) (hi : i < acc.length) (k : Int), p acc[i] → 0 ≤ k → k + (Cnt.cnt acc[i] : Int) ≤ 4611686018427387904 → ∃ y', mb (acc, k, (i : Int)) = some (.inl (acc.set i y', k + (Cnt.cnt acc[i] : Int), w64 ((i : Int) + 1))) ∧
      ∀ (ys : List α) (hi' : i < ys.length), ys[i] = y' → hb ys (k, (i : Int)) = some (.inl (k + (Cnt.cnt acc[i] : Int), w64 ((i : Int) + 1))))
    (h2 : ∀ (acc : List α) (k : Int), mb (acc, k, (acc.length : Int)) = some (.inr (.brk (acc, k, (acc.length : Int)))))
    (h3 : ∀ (ys : List α) (k : Int), hb ys (k, (ys.length : Int)) = some (.inr (.brk (k, (ys.length : Int)))))
    (xs : List α) (k : Int) (hn : xs.length ≤ 1099511627776) (hp : ∀ x ∈ xs, p x) (h0 : 0 ≤ k) (hk : k + (Cnt.cnt xs : Int) ≤ 4611686018427387904) :
    ∃ ys, bnd (run mb (xs, k, 0)) (Out.elim (fun (s : List α × Int × Int) => some (s.2.1, s.1)) (fun (r : Int × List α) => some r)) = some (k + (Cnt.cnt xs : Int), ys) ∧
      bnd (run (hb ys) (k, 0)) (Out.elim (fun (s : Int × Int) => some s.1) (fun (r : Int) => some r)) = some (k + (Cnt.cnt xs : Int)) := by
  have key : ∀ m i (acc : List α) (k : Int), i + m = acc.length → acc.length ≤ 1099511627776 → (∀ x ∈ acc.drop i, p x) → 0 ≤ k → k + (((acc.drop i).map Cnt.cnt).sum : Nat) ≤ 4611686018427387904 →
      ∃ ys : List α, ys.length = acc.length ∧ (∀ j, j < i → ys[j]? = acc[j]?) ∧ run mb (acc, k, (i : Int)) = some (.brk (ys, k + (((acc.drop i).map Cnt.cnt).sum : Nat), (acc.length : Int))) ∧
        run (hb ys) (k, (i : Int)) = some (.brk (k + (((acc.drop i).map Cnt.cnt).sum : Nat), (acc.length : Int))) := by
    intro m
    induction m with
    | zero =>
      intro i acc k hi hl hpa hk0 hks
      obtain rfl : i = acc.length := by omega
      refine ⟨acc, rfl, fun _ _ => rfl, ?_, ?_⟩
      · rw [run_done (h2 acc k)]; simp
      · rw [run_done (h3 acc k)]; simp
    | succ m ih =>
      intro i acc k hi hl hpa hk0 hks
      have hlt : i < acc.length := by omega
      have hd : ((acc.drop i).map Cnt.cnt).sum = Cnt.cnt acc[i] + ((acc.drop (i + 1)).map Cnt.cnt).sum := by
        rw [List.drop_eq_getElem_cons hlt, List.map_cons, List.sum_cons]
      rw [hd] at hks ⊢
      have hpi : p acc[i] := hpa _ (by rw [List.drop_eq_getElem_cons hlt]; exact List.mem_cons_self)
      obtain ⟨y', e1, e2⟩ := h1 acc i hlt k hpi hk0 (by omega)
      have hd2 : (acc.set i y').drop (i + 1) = acc.drop (i + 1) := by
        apply List.ext_getElem?
        intro j
        rw [List.getElem?_drop, List.getElem?_drop, List.getElem?_set_ne (by omega)]
      obtain ⟨ys, f1, f2, f3, f4⟩ := ih (i + 1) (acc.set i y') (k + (Cnt.cnt acc[i] : Int)) (by simp; omega) (by simpa using hl) (by rw [hd2]; intro x hx; exact hpa x (by rw [List.drop_eq_getElem_cons hlt]; exact List.mem_cons_of_mem _ hx)) (by omega) (by rw [hd2]; omega)
      rw [hd2] at f3 f4
      simp only [List.length_set] at f1 f3 f4
      refine ⟨ys, f1, fun j hj => ?_, ?_, ?_⟩
      · rw [f2 j (by omega), List.getElem?_set_ne (by omega)]
      · rw [run_next e1, w64_nat1 (by omega), f3, Int.natCast_add, Int.add_assoc]
      · have hiy : i < ys.length := by omega
        have hyi : ys[i] = y' := by
          have := f2 i (by omega)
          rw [List.getElem?_set_self hlt, List.getElem?_eq_getElem hiy] at this
          exact Option.some.inj this
        rw [run_next (e2 ys hiy hyi), w64_nat1 (by omega), f4, Int.natCast_add, Int.add_assoc]
  obtain ⟨ys, _, _, f3, f4⟩ := key xs.length 0 xs k (by omega) hn (by simpa using hp) h0 (by rw [List.drop_zero]; exact hk)
  refine ⟨ys, ?_, ?_⟩
  · have : run mb (xs, k, 0) = run mb (xs, k, ((0 : Nat) : Int)) := rfl
    rw [this, f3, List.drop_zero]
    rfl
  · have : run (hb ys) (k, 0) = run (hb ys) (k, ((0 : Nat) : Int)) := rfl
    rw [this, f4, List.drop_zero]
    rfl
theorem run_marks0 {α : Type} [Cnt α] {mb : List α × Int × Int → Option ((List α × Int × Int) ⊕ Out (List α × Int × Int) (Int × List α))}
    (p : α → Prop) (h1 : ∀ (acc : List α) (i : Nat) (hi : i < acc.length) (k : Int), p acc[i] → 0 ≤ k → k + (Cnt.cnt acc[i] : Int) ≤ 4611686018427387904 → ∃ y', mb (acc, k, (i : Int)) = some (.inl (acc.set i y', k + (Cnt.cnt acc[i] : Int), w64 ((i : Int) + 1))))
    (h2 : ∀ (acc : List α) (k : Int), mb (acc, k, (acc.length : Int)) = some (.inr (.brk (acc, k, (acc.length : Int)))))
    (xs : List α) (k : Int) (hn : xs.length ≤ 1099511627776) (hp : ∀ x ∈ xs, p x) (h0 : 0 ≤ k) (hk : k + (Cnt.cnt xs : Int) ≤ 4611686018427387904) :
    ∃ ys, bnd (run mb (xs, k, 0)) (Out.elim (fun (s : List α × Int × Int) => some (s.2.1, s.1)) (fun (r : Int × List α) => some r)) = some (k + (Cnt.cnt xs : Int), ys) := by
  have key : ∀ m i (acc : List α) (k : Int), i + m = acc.length → acc.length ≤ 1099511627776 → (∀ x ∈ acc.drop i, p x) → 0 ≤ k → k + (((acc.drop i).map Cnt.cnt).sum : Nat) ≤ 4611686018427387904 →
      ∃ ys : List α, run mb (acc, k, (i : Int)) = some (.brk (ys, k + (((acc.drop i).map Cnt.cnt).sum : Nat), (acc.length : Int))) := by
    intro m
    induction m with
    | zero =>
      intro i acc k hi hl hpa hk0 hks
      obtain rfl : i = acc.length := by omega
      refine ⟨acc, ?_⟩
      rw [run_done (h2 acc k)]; simp
    | succ m ih =>
      intro i acc k hi hl hpa hk0 hks
      have hlt : i < acc.length := by omega
      have hd : ((acc.drop i).map Cnt.cnt).sum = Cnt.cnt acc[i] + ((acc.drop (i + 1)).map Cnt.cnt).sum := by
        rw [List.drop_eq_getElem_cons hlt, List.map_cons, List.sum_cons]
      rw [hd] at hks ⊢
      have hpi : p acc[i] := hpa _ (by rw [List.drop_eq_getElem_cons hlt]; exact List.mem_cons_self)
      obtain ⟨y', e1⟩ := h1 acc i hlt k hpi hk0 (by omega)
      have hd2 : (acc.set i y').drop (i + 1) = acc.drop (i + 1) := by
        apply List.ext_getElem?
        intro j
        rw [List.getElem?_drop, List.getElem?_drop, List.getElem?_set_ne (by omega)]
      obtain ⟨ys, f3⟩ := ih (i + 1) (acc.set i y') (k + (Cnt.cnt acc[i] : Int)) (by simp; omega) (by simpa using hl) (by rw [hd2]; intro x hx; exact hpa x (by rw [List.drop_eq_getElem_cons hlt]; exact List.mem_cons_of_mem _ hx)) (by omega) (by rw [hd2]; omega)
      rw [hd2] at f3
      simp only [List.length_set] at f3
      exact ⟨ys, by rw [run_next e1, w64_nat1 (by omega), f3, Int.natCast_add, Int.add_assoc]⟩
  obtain ⟨ys, f3⟩ := key xs.length 0 xs k (by omega) hn (by simpa using hp) h0 (by rw [List.drop_zero]; exact hk)
  refine ⟨ys, ?_⟩
  have : run mb (xs, k, 0) = run mb (xs, k, ((0 : Nat) : Int)) := rfl
  rw [this, f3, List.drop_zero]
  rfl
end Go.Tc
namespace Go.Tc
open Go
def kindsOk (P : Program) (fn : Func) (c : OpenClaim) : Bool := ((c.kinds == (if c.domain.isEmpty then [] else fn.params.toList.map fun t => match P.underlying t with | some (.int k) => some k | _ => none)) && (c.pinned == c.pinnedBy))
theorem joined_of {P : Program} {f : FuncId} {fn : Func} {s : ChangeSpec} {c : OpenClaim} (h1 : c.wf (OpenSpec.ofChange s) = true) (h2 : laidOutB P = true)
    (h3 : (mapsRowed P && fn.params.all (P.readableRec ·) && namedTie P c.named s.vars) = true) (h4 : ((c.stops == []) && (P.stops == []) && (c.knobs == []) && (P.stopKnobs == [])) = true)
    (h5 : (c.inPlace == P.inPlace f) = true) (h6 : (c.unfollowed == P.unfollowed f) = true) (h7 : (c.recurses == P.recurses f) = true) (h8 : (c.named == P.varsNamed f) = true)
    (h9 : ((c.maps == (fn.params.toList ++ s.plain.varTypes P).any (P.mapsRec ·)) && (c.ifaces == (fn.params.toList ++ s.plain.varTypes P).any (P.ifacesRec ·)) && (c.mapsOut == P.mapsAmong fn.resultTypes.toList)) = true)
    (h10 : ((c.loops == (fn.params.toList ++ s.plain.varTypes P).any (P.loopsFrom ·)) && (c.wideKeys == (fn.params.toList ++ s.plain.varTypes P ++ fn.resultTypes.toList).any (P.wideKeysFrom ·))) = true)
    (h11 : (s.vars.all (P.varReadable ·) && fn.resultTypes.all (fun t => P.readableRec t && decide (t < P.types.size)) && (c.ifacesOut == fn.resultTypes.toList.any (P.ifacesRec ·)) && (c.loopsOut == fn.resultTypes.toList.any (P.loopsFrom ·)) && (c.plainKeys == P.plainKeys) && c.shortTexts.isNone) = true)
    (h12 : P.stopsHeard = true) (h13 : P.mayEnter = true) (h14 : (c.lifted == P.liftsFinal) = true) (h15 : (P.make == some c.make) = true)
    (h16 : kindsOk P fn c = true)
    (h17 : ((c.veiled == (fn.params.toList ++ s.plain.varTypes P ++ fn.resultTypes.toList).any (P.veiledRec ·)) && c.veiledFits P fn.params.toList (fn.params.toList ++ s.plain.varTypes P ++ fn.resultTypes.toList)) = true) :
    joinedFacts P f fn s c = true := by
  unfold joinedFacts
  unfold kindsOk at h16
  rw [Bool.and_eq_true, Bool.and_eq_true] at h3
  rw [Bool.and_eq_true, Bool.and_eq_true, Bool.and_eq_true] at h4
  rw [Bool.and_eq_true, Bool.and_eq_true] at h9
  rw [Bool.and_eq_true] at h10 h16 h17
  rw [Bool.and_eq_true, Bool.and_eq_true, Bool.and_eq_true, Bool.and_eq_true, Bool.and_eq_true] at h11
  obtain ⟨⟨a1, a2⟩, a3⟩ := h3
  obtain ⟨⟨⟨b1, b2⟩, b3⟩, b4⟩ := h4
  obtain ⟨⟨c1, c2⟩, c3⟩ := h9
  obtain ⟨d1, d2⟩ := h10
  obtain ⟨⟨⟨⟨⟨e1, e2⟩, e3⟩, e4⟩, e5⟩, e6⟩ := h11
  obtain ⟨f1, f2⟩ := h16
  obtain ⟨g1, g2⟩ := h17
  iterate 31 (refine Bool.and_eq_true_iff.2 ⟨?_, by assumption⟩)
  assumption
end Go.Tc
namespace Go.Tc
open Go Go.RowKit
end Go.Tc
namespace Go.Tc
open Go Go.RowKit
end Go.Tc
