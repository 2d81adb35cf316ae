/-
  From the form's readings of arguments to the calculus's: what a law's statement asks is what its contract gives. No condition.
-/
import Derived.Test.YtfklpjdenigohaaPar
import Derived.Deep.Slices
import Derived.Deep.Strs
import Derived.ProofKit
import Derived.Carry
namespace Go.Tc
open Go Go.RowKit

/-- What is known of every datum that came in: integers fit their kind, lists are no longer than can be. -/
class Wf (α : Type) where
  wf : α → Prop
def I64 (x : Int) : Prop := -9223372036854775808 ≤ x ∧ x ≤ 9223372036854775807
instance : Wf Int := ⟨I64⟩
instance : Wf Bool := ⟨fun _ => True⟩
instance : Wf ByteArray := ⟨fun s => s.size ≤ maxLen⟩
instance {α : Type} [Wf α] : Wf (List α) := ⟨fun xs => xs.length ≤ maxLen ∧ ∀ x ∈ xs, Wf.wf x⟩

def Tr (P : Program) (t : TypeId) (α : Type) [Rep α] [Wf α] : Prop :=
  ∀ (H : Type) (enc : TypeId × Value → H) (w : World) (base : Nat) (spare : Nat → Bool) (held : Bool) (fuel : Nat) (cs : List Value) (x : DataW H × List MemPlace),
    DataW.trod enc P w base spare held fuel t cs = some x → ∃ y : α, Rep.rdc nowhere w cs y ∧ Wf.wf y

variable {P : Program}
theorem tr_int {t : TypeId} (ht : P.underlying t = some (.int .i64)) : Tr P t Int := by
  intro H enc w base spare held fuel cs x h
  cases fuel with
  | zero => simp [DataW.trod] at h
  | succ n =>
    unfold DataW.trod at h
    rw [ht] at h
    split at h <;> simp_all
    rename_i k k' m e
    obtain ⟨⟨rfl, hw⟩, _⟩ := h
    subst e
    refine ⟨m, rfl, ?_⟩
    simpa [Wf.wf, I64, Lit.wf, IntKind.min, IntKind.max, IntKind.signed, IntKind.bits] using hw
theorem tr_bool_cells {t : TypeId} (ht : P.underlying t = some .bool) {H : Type} {enc : TypeId × Value → H} {w : World} {base : Nat} {spare : Nat → Bool} {held : Bool} {fuel : Nat} {cs : List Value} {x : DataW H × List MemPlace}
    (h : DataW.trod enc P w base spare held fuel t cs = some x) : ∃ b, cs = [.bool b] ∧ x = (.lit (.bool b), []) := by
  cases fuel with
  | zero => simp [DataW.trod] at h
  | succ n =>
    unfold DataW.trod at h
    rw [ht] at h
    split at h <;> simp_all
theorem tr_bool {t : TypeId} (ht : P.underlying t = some .bool) : Tr P t Bool := by
  intro H enc w base spare held fuel cs x h
  obtain ⟨b, rfl, _⟩ := tr_bool_cells ht h
  exact ⟨b, rfl, trivial⟩
theorem tr_str {t : TypeId} (ht : P.underlying t = some .string) : Tr P t ByteArray := by
  intro H enc w base spare held fuel cs x h
  cases fuel with
  | zero => simp [DataW.trod] at h
  | succ n =>
    unfold DataW.trod at h
    rw [ht] at h
    split at h <;> simp_all
    rename_i s
    exact ⟨s, rfl, h.1⟩
theorem cells?_some {w : World} {base : Nat} {a : Addr} {n : Nat} {cs : List Value} (h : w.cells? base a n = some cs) : cs.length = n ∧ ∀ j u, cs[j]? = some u → w.cell? (a.add j) = some u := by
  obtain ⟨_, h1, h2⟩ := World.cells?_some h
  refine ⟨h1, fun j u hj => ?_⟩
  have : j < n := by rw [← h1]; exact (List.getElem?_eq_some_iff.1 hj).1
  rw [h2 j this, hj]
theorem tr_slice {α : Type} [Rep α] [Wf α] {t e : TypeId} (ht : P.underlying t = some (.slice e)) (hs : P.cellsOf e = Rep.sz α) (he : Tr P e α) : Tr P t (List α) := by
  intro H enc w base spare held fuel cs x h
  rcases Go.Deep.open_slice ht h with ⟨rfl, _⟩ | ⟨a, len, cap, m, n, D, Pl, rfl, hb, hl, hm, hmm, _, hel⟩
  · exact ⟨[], ⟨_, rfl, RdS.nil⟩, by simp [Wf.wf]⟩
  have hlm : len ≤ m := by rw [hmm]; split <;> omega
  have key : ∀ k, k ≤ len → ∃ (ys : List α) (cells : List Value), ys.length = k ∧ RdL nowhere w cells ys ∧ (∀ y ∈ ys, Wf.wf y) ∧ ∀ j u, cells[j]? = some u → w.cell? (a.add j) = some u := by
    intro k
    induction k with
    | zero => intro _; exact ⟨[], [], rfl, rfl, by simp, by simp⟩
    | succ k ih =>
      intro hk
      obtain ⟨ys, cells, h1, h2, h3, h4⟩ := ih (by omega)
      obtain ⟨cs', hc, htr⟩ := hel k (by omega)
      obtain ⟨hcl, hcc⟩ := cells?_some hc
      obtain ⟨y, hy, hw⟩ := he H enc w base spare held n cs' _ htr
      have hlen := RdL.length _ _ h2
      refine ⟨ys ++ [y], cells ++ cs', by simp [h1], RdL.append _ _ _ _ h2 ⟨cs', [], by simp, hy, rfl⟩, ?_, ?_⟩
      · intro z hz
        rcases List.mem_append.1 hz with hz | hz
        · exact h3 z hz
        · simp at hz; subst hz; exact hw
      · intro j u hj
        by_cases hlt : j < cells.length
        · rw [List.getElem?_append_left hlt] at hj
          exact h4 j u hj
        · rw [List.getElem?_append_right (by omega)] at hj
          have := hcc _ _ hj
          rw [Go.Deep.add_add, hs] at this
          rw [hlen, h1] at this
          rw [hlen, h1] at hlt
          rwa [show k * Rep.sz α + (j - k * Rep.sz α) = j by omega] at this
  obtain ⟨ys, cells, h1, h2, h3, h4⟩ := key len (Nat.le_refl _)
  have hlm2 : len ≤ maxLen := Nat.le_trans hl hm
  refine ⟨ys, ⟨_, rfl, ?_⟩, by rw [h1]; exact hlm2, h3⟩
  by_cases h0 : len = 0
  · subst h0
    have : ys = [] := List.eq_nil_of_length_eq_zero h1
    subst this
    exact .inl ⟨rfl, some a, cap, rfl, by simp, hm⟩
  · have hcl := RdL.length _ _ h2
    have hpos : 0 < cells.length := by rw [hcl, h1]; exact Nat.mul_pos (by omega) Rep.pos
    obtain ⟨c0, hc0⟩ : ∃ c, cells[0]? = some c := ⟨cells[0], by simp [hpos]⟩
    have hca := h4 0 c0 hc0
    have hsp : a.spot = none := by
      simp only [Addr.add, if_true] at hca
      unfold World.cell? at hca
      split at hca
      · split at hca
        · simp at hca
        · rename_i hns; simpa using hns
      · simp at hca
    obtain ⟨b, off, sp⟩ := a
    simp only at hsp
    subst hsp
    refine .inr ⟨b, off, cap, cells, by rw [h1], fun h => h.elim, ?_, by rw [h1]; exact hl, hm, fun j u hj => by have := h4 j u hj; rwa [Addr.add_lit] at this, h2⟩
    have := h4 0 c0 hc0
    rw [Addr.add_lit] at this
    exact World.block_lt_of_cell? w _ this
theorem tr_field {α : Type} [Rep α] [Wf α] {H : Type} {enc : TypeId × Value → H} {w : World} {base : Nat} {spare : Nat → Bool} {held : Bool} {n : Nat} {cs : List Value} {fs : Array Field} {xs : List (DataW H × List MemPlace)}
    (hlen : xs.length = fs.size) (hf : ∀ (i : Nat) (f : Field), fs[i]? = some f → DataW.trod enc P w base spare held n f.type ((cs.drop f.offset).take (P.cellsOf f.type)) = xs[i]?)
    (i : Nat) {f : Field} (hfi : fs[i]? = some f) (ht : Tr P f.type α) (h1 : P.cellsOf f.type = 1) {c : Value} (hc : (cs.drop f.offset).take 1 = [c]) : ∃ y : α, Rep.rdc nowhere w [c] y ∧ Wf.wf y := by
  have h := hf i f hfi
  rw [h1, hc] at h
  have hi : i < xs.length := by
    rw [hlen]
    exact (Array.getElem?_eq_some_iff.1 hfi).1
  rw [List.getElem?_eq_getElem hi] at h
  exact ht H enc w base spare held n [c] _ h

theorem len1 {α : Type} {l : List α} (h : l.length = 1) : ∃ c0, l = [c0] := by
  match l, h with
  | [c0], _ => exact ⟨c0, rfl⟩
theorem len2 {α : Type} {l : List α} (h : l.length = 2) : ∃ c0 c1, l = [c0, c1] := by
  match l, h with
  | [c0, c1], _ => exact ⟨c0, c1, rfl⟩
theorem len3 {α : Type} {l : List α} (h : l.length = 3) : ∃ c0 c1 c2, l = [c0, c1, c2] := by
  match l, h with
  | [c0, c1, c2], _ => exact ⟨c0, c1, c2, rfl⟩
theorem len4 {α : Type} {l : List α} (h : l.length = 4) : ∃ c0 c1 c2 c3, l = [c0, c1, c2, c3] := by
  match l, h with
  | [c0, c1, c2, c3], _ => exact ⟨c0, c1, c2, c3, rfl⟩
theorem len5 {α : Type} {l : List α} (h : l.length = 5) : ∃ c0 c1 c2 c3 c4, l = [c0, c1, c2, c3, c4] := by
  match l, h with
  | [c0, c1, c2, c3, c4], _ => exact ⟨c0, c1, c2, c3, c4, rfl⟩
theorem len6 {α : Type} {l : List α} (h : l.length = 6) : ∃ c0 c1 c2 c3 c4 c5, l = [c0, c1, c2, c3, c4, c5] := by
  match l, h with
  | [c0, c1, c2, c3, c4, c5], _ => exact ⟨c0, c1, c2, c3, c4, c5, rfl⟩
theorem len7 {α : Type} {l : List α} (h : l.length = 7) : ∃ c0 c1 c2 c3 c4 c5 c6, l = [c0, c1, c2, c3, c4, c5, c6] := by
  match l, h with
  | [c0, c1, c2, c3, c4, c5, c6], _ => exact ⟨c0, c1, c2, c3, c4, c5, c6, rfl⟩

/-- The shape of a value of the type t. -/
def Shp (P : Program) (t : TypeId) (α : Type) [Rep α] : Prop := ∀ (W : World) (base : Nat) (v : Value), Value.okWide P W .any base t v → v = Rep.val α v.cells.toList
open Go.WideShapes in
theorem shp_int {t : TypeId} (ht : P.underlying t = some (.int .i64)) : Shp P t Int := fun W base v h => by
  obtain ⟨n, rfl⟩ := okWide_int ht h
  rfl
open Go.WideShapes in
theorem shp_bool {t : TypeId} (ht : P.underlying t = some .bool) : Shp P t Bool := fun W base v h => by
  obtain ⟨n, rfl⟩ := okWide_bool ht h
  rfl
open Go.WideShapes in
theorem shp_str {t : TypeId} (ht : P.underlying t = some .string) : Shp P t ByteArray := fun W base v h => by
  obtain ⟨n, rfl⟩ := okWide_string ht h
  rfl
open Go.WideShapes in
theorem shp_slice {α : Type} [Rep α] {t e : TypeId} (ht : P.underlying t = some (.slice e)) : Shp P t (List α) := fun W base v h => by
  obtain ⟨a, l, c, rfl⟩ := okWide_slice ht h
  rfl
open Go.WideShapes in
theorem shp_struct {α : Type} [Rep α] {t : TypeId} {fs : Array Field} (ht : P.underlying t = some (.struct fs)) (ha : Rep.agg α = true) : Shp P t α := fun W base v h => by
  obtain ⟨cs, rfl, _⟩ := okWide_struct ht h
  unfold Rep.val
  rw [if_pos ha]
  simp [Value.cells]
theorem rd_of {α : Type} [Rep α] [Wf α] {t : TypeId} {H : Type} {enc : TypeId × Value → H} {W : World} {base b0 : Nat} {spare : Nat → Bool} {held : Bool} {v : Value} {d : DataW H} {ps : List MemPlace}
    (hs : Shp P t α) (htr : Tr P t α) (hv : Value.okWide P W .any b0 t v) (h : DataW.Trod enc P W base spare held t v d ps) : ∃ y : α, Rd nowhere W v y ∧ Wf.wf y := by
  obtain ⟨fuel, hf⟩ := h
  obtain ⟨y, hy, hw⟩ := htr H enc W base spare held fuel _ _ hf
  exact ⟨y, ⟨_, hs W b0 v hv, hy⟩, hw⟩
theorem walk_of {f : FuncId} {vs : List Value} {w : World} {b : Bool} (h : Con P f vs nowhere w (fun _ : Unit => .bool b) (fun _ => [])) (hb : b = true) :
    Calls P f vs.toArray w fun e w' => e = .returned (.bool true) ∧ Below w.heap.size w w' := by
  subst hb
  exact h.mono fun _ _ ⟨_, he, hk⟩ => ⟨he, hk.below⟩
end Go.Tc
