/-
  From the form's readings of arguments to the calculus's: what a law's statement asks is what its contract gives. No condition.
  Plain laws on the plain functions: loops, rows, copies. No program in sight. No condition.
  The closed facts of a row, one by one. No condition.
  A row turned round, as a plain loop. No condition.
  Elements struck out of a row, as plain loops. No condition.
-/
import Derived.Test.YtlikagofgciflaaMost
import Derived.Deep.Slices
import Derived.Deep.Strs
import Derived.ProofKit
import Derived.Carry
import Derived.JoinedOf
namespace Go.Tc
open Go Go.RowKit
class Wf (α : Type) where
 wf : α → Prop
def I64 (x : Int) : Prop := -9223372036854775808 ≤ x ∧ x ≤ 9223372036854775807
instance : Wf Int := ⟨I64⟩
instance : Wf Bool := ⟨fun _ => True⟩
instance : Wf ByteArray := ⟨fun s => s.size ≤ maxLen⟩
instance {α : Type} [Wf α] : Wf (List α) := ⟨fun xs => xs.length ≤ maxLen ∧ ∀ x ∈ xs, Wf.wf x⟩
def Tr (P : Program) (t : TypeId) (α : Type) [Rep α] [Wf α] : Prop :=
 ∀ (H : Type) (enc : TypeId × Value → H) (w : World) (base : Nat) (spare : Nat → Bool) (held : Bool) (fuel : Nat) (cs : List Value) (x : DataW H × List MemPlace),
  DataW.trod enc P w base spare held fuel t cs = some x → ∃ y : α, Rep.rdc nowhere w cs y ∧ Wf.wf y
variable {P : Program}
instance {k : IntKind} : Wf (Ik k) := ⟨fun x => k.min ≤ x.val ∧ x.val ≤ k.max⟩
theorem tr_ik {k : IntKind} {t : TypeId} (ht : P.underlying t = some (.int k)) : Tr P t (Ik k) := by
 intro H enc w base spare held fuel cs x h
 cases fuel with
 | zero => simp [DataW.trod] at h
 | succ n =>
  unfold DataW.trod at h
  rw [ht] at h
  split at h <;> simp_all
  rename_i k1 k' m e
  obtain ⟨⟨rfl, hw⟩, _⟩ := h
  subst e
  refine ⟨⟨m⟩, rfl, ?_⟩
  simpa [Wf.wf, Lit.wf] using hw
theorem cells?_some {w : World} {base : Nat} {a : Addr} {n : Nat} {cs : List Value} (h : w.cells? base a n = some cs) : cs.length = n ∧ ∀ j u, cs[j]? = some u → w.cell? (a.add j) = some u := by
 obtain ⟨_, h1, h2⟩ := World.cells?_some h
 refine ⟨h1, fun j u hj => ?_⟩
 have : j < n := by rw [← h1]; exact (List.getElem?_eq_some_iff.1 hj).1
 rw [h2 j this, hj]
theorem tr_slice {α : Type} [Rep α] [Wf α] {t e : TypeId} (ht : P.underlying t = some (.slice e)) (hs : P.cellsOf e = Rep.sz α) (he : Tr P e α) : Tr P t (List α) := by
 intro H enc w base spare held fuel cs x h
 rcases Go.Deep.open_slice ht h with ⟨rfl, _⟩ | ⟨a, len, cap, m, n, D, Pl, rfl, hb, hl, hm, hmm, _, hel⟩
 ·exact ⟨[], ⟨_, rfl, RdS.nil⟩, by simp [Wf.wf]⟩
 have hlm : len ≤ m := by rw [hmm]; split <;> omega
 have key : ∀ k, k ≤ len → ∃ (ys : List α) (cells : List Value), ys.length = k ∧ RdL nowhere w cells ys ∧ (∀ y ∈ ys, Wf.wf y) ∧ ∀ j u, cells[j]? = some u → w.cell? (a.add j) = some u := by
  intro k
  induction k with
  | zero => intro _; exact ⟨[], [], rfl, rfl, by simp, by simp⟩
  | succ k ih =>
   intro hk
   obtain ⟨ys, cells, h1, h2, h3, h4⟩ := ih (by omega)
   obtain ⟨cs', hc, htr⟩ := hel k (by omega)
   obtain ⟨hcl, hcc⟩ := cells?_some hc
   obtain ⟨y, hy, hw⟩ := he H enc w base spare held n cs' _ htr
   have hlen := RdL.length _ _ h2
   refine ⟨ys ++ [y], cells ++ cs', by simp [h1], RdL.append _ _ _ _ h2 ⟨cs', [], by simp, hy, rfl⟩, ?_, ?_⟩
   ·intro z hz
    rcases List.mem_append.1 hz with hz | hz
    ·exact h3 z hz
    ·simp at hz; subst hz; exact hw
   ·intro j u hj
    by_cases hlt : j < cells.length
    ·rw [List.getElem?_append_left hlt] at hj
     exact h4 j u hj
    ·rw [List.getElem?_append_right (by omega)] at hj
     have := hcc _ _ hj
     rw [Go.Deep.add_add, hs] at this
     rw [hlen, h1] at this
     rw [hlen, h1] at hlt
     rwa [show k * Rep.sz α + (j - k * Rep.sz α) = j by omega] at this
 obtain ⟨ys, cells, h1, h2, h3, h4⟩ := key len (Nat.le_refl _)
 have hlm2 : len ≤ maxLen := Nat.le_trans hl hm
 refine ⟨ys, ⟨_, rfl, ?_⟩, by rw [h1]; exact hlm2, h3⟩
 by_cases h0 : len = 0
 ·subst h0
  have : ys = [] := List.eq_nil_of_length_eq_zero h1
  subst this
  exact .inl ⟨rfl, some a, cap, rfl, by simp, hm⟩
 ·have hcl := RdL.length _ _ h2
  have hpos : 0 < cells.length := by rw [hcl, h1]; exact Nat.mul_pos (by omega) Rep.pos
  obtain ⟨c0, hc0⟩ : ∃ c, cells[0]? = some c := ⟨cells[0], by simp [hpos]⟩
  have hca := h4 0 c0 hc0
  have hsp : a.spot = none := by
   simp only [Addr.add, if_true] at hca
   unfold World.cell? at hca
   split at hca
   ·split at hca
    ·simp at hca
    ·rename_i hns; simpa using hns
   ·simp at hca
  obtain ⟨b, off, sp⟩ := a
  simp only at hsp
  subst hsp
  refine .inr ⟨b, off, cap, cells, by rw [h1], fun h => h.elim, ?_, by rw [h1]; exact hl, hm, fun j u hj => by have := h4 j u hj; rwa [Addr.add_lit] at this, h2⟩
  have := h4 0 c0 hc0
  rw [Addr.add_lit] at this
  exact World.block_lt_of_cell? w _ this
def Shp (P : Program) (t : TypeId) (α : Type) [Rep α] : Prop := ∀ (W : World) (base : Nat) (v : Value), Value.okWide P W .any base t v → v = Rep.val α v.cells.toList
open Go.WideShapes in
open Go.WideShapes in
open Go.WideShapes in
open Go.WideShapes in
open Go.WideShapes in
theorem shp_slice {α : Type} [Rep α] {t e : TypeId} (ht : P.underlying t = some (.slice e)) : Shp P t (List α) := fun W base v h => by
 obtain ⟨a, l, c, rfl⟩ := okWide_slice ht h
 rfl
open Go.WideShapes in
theorem rd_of {α : Type} [Rep α] [Wf α] {t : TypeId} {H : Type} {enc : TypeId × Value → H} {W : World} {base b0 : Nat} {spare : Nat → Bool} {held : Bool} {v : Value} {d : DataW H} {ps : List MemPlace}
  (hs : Shp P t α) (htr : Tr P t α) (hv : Value.okWide P W .any b0 t v) (h : DataW.Trod enc P W base spare held t v d ps) : ∃ y : α, Rd nowhere W v y ∧ Wf.wf y := by
 obtain ⟨fuel, hf⟩ := h
 obtain ⟨y, hy, hw⟩ := htr H enc W base spare held fuel _ _ hf
 exact ⟨y, ⟨_, hs W b0 v hv, hy⟩, hw⟩
theorem walk_of {f : FuncId} {vs : List Value} {w : World} {b : Bool} (h : Con P f vs nowhere w (fun _ : Unit => .bool b) (fun _ => [])) (hb : b = true) :
  Calls P f vs.toArray w fun e w' => e = .returned (.bool true) ∧ Below w.heap.size w w' := by
 subst hb
 exact h.mono fun _ _ ⟨_, he, hk⟩ => ⟨he, hk.below⟩
end Go.Tc
namespace Go.Tc
open Go
theorem run_next {S X : Type} {body : S → Option (S ⊕ X)} {s s' : S} (h : body s = some (.inl s')) : run body s = run body s' := by
 rw [run_unfold, h]
theorem run_done {S X : Type} {body : S → Option (S ⊕ X)} {s : S} {x : X} (h : body s = some (.inr x)) : run body s = some x := by
 rw [run_unfold, h]
def forN {σ X : Type} (f : Nat → σ → Option (σ ⊕ X)) : Nat → Nat → σ → Option (σ ⊕ X)
 | 0, _, a => some (.inl a)
 | k + 1, i, a => match f i a with
  | none => none
  | some (.inl a') => forN f k (i + 1) a'
  | some (.inr x) => some (.inr x)
theorem run_for {σ S X : Type} {body : S → Option (S ⊕ X)} (st : Nat → σ → S) (f : Nat → σ → Option (σ ⊕ X)) (n : Nat)
  (h : ∀ i a, i < n → body (st i a) = match f i a with | none => none | some (.inl a') => some (.inl (st (i + 1) a')) | some (.inr x) => some (.inr x)) :
  ∀ k i a, i + k = n → run body (st i a) = match forN f k i a with | none => none | some (.inl a') => run body (st n a') | some (.inr x) => some x := by
 intro k
 induction k with
 | zero => intro i a hi; simp [forN, show i = n by omega]
 | succ k ih =>
  intro i a hi
  rw [run_unfold, h i a (by omega)]
  unfold forN
  cases hf : f i a with
  | none => rfl
  | some y =>
   cases y with
   | inl a' => exact ih (i + 1) a' (by omega)
   | inr x => rfl
theorem idx_nat {α : Type} {xs : List α} {i : Nat} (h : i < xs.length) : idx xs (i : Int) = some xs[i] := by
 unfold idx
 rw [if_neg (by omega)]
 simp [h]
theorem w64_nat1 {i : Nat} (h : i < 4611686018427387904) : w64 ((i : Int) + 1) = ((i + 1 : Nat) : Int) := by
 rw [w64_in (by omega) (by omega)]
 omega
theorem mke_nat {α : Type} {n : Nat} {z : α} (h : n ≤ 1048576) : mke (n : Int) z = some (List.replicate n z) := by
 unfold mke
 rw [if_pos (by omega)]
 simp
theorem app_ok {α : Type} {xs ys : List α} (h : xs.length + ys.length ≤ 1099511627776) : app xs ys = some (xs ++ ys) := by
 unfold app lim
 rw [if_pos h]
theorem slc_ok {α : Type} {xs : List α} {lo hi : Nat} (h1 : lo ≤ hi) (h2 : hi ≤ xs.length) : slc xs lo hi = some ((xs.take hi).drop lo) := by
 unfold slc
 rw [if_pos (by omega)]
 simp
theorem run_all {X : Type} {body : Int → Option (Int ⊕ X)} (n : Nat) (hn : n ≤ 4611686018427387904) (p : Nat → Bool) (x y : X)
  (h1 : ∀ i : Nat, i < n → p i = true → body i = some (.inl (w64 (i + 1)))) (h2 : ∀ i : Nat, i < n → p i = false → body i = some (.inr x)) (h3 : body n = some (.inr y)) :
  run body 0 = some (if ∀ i, i < n → p i = true then y else x) := by
 have key : ∀ k i, i + k = n → (∀ j, j < i → p j = true) → run body (i : Int) = some (if ∀ i, i < n → p i = true then y else x) := by
  intro k
  induction k with
  | zero =>
   intro i hi hp
   obtain rfl : i = n := by omega
   rw [run_unfold, h3, if_pos hp]
  | succ k ih =>
   intro i hi hp
   cases hpi : p i with
   | true =>
    rw [run_next (h1 i (by omega) hpi), w64_nat1 (by omega)]
    refine ih (i + 1) (by omega) fun j hj => ?_
    by_cases e : j = i
    ·subst e; exact hpi
    ·exact hp j (by omega)
   | false =>
    rw [run_done (h2 i (by omega) hpi), if_neg]
    intro h
    have := h i (by omega)
    simp [hpi] at this
 exact key n 0 (by omega) (fun j hj => by omega)
class Bdd (α : Type) where
 bd : Nat → α → Prop
 mono : ∀ {k k' : Nat} {x : α}, k ≤ k' → bd k x → bd k' x
instance : Bdd Int := ⟨fun _ _ => True, fun _ h => h⟩
instance : Bdd Bool := ⟨fun _ _ => True, fun _ h => h⟩
instance : Bdd ByteArray := ⟨fun k s => s.size ≤ k, fun h k => Nat.le_trans k h⟩
instance {α : Type} [Bdd α] : Bdd (List α) := ⟨fun k xs => xs.length ≤ k ∧ ∀ x ∈ xs, Bdd.bd k x, fun h k => ⟨Nat.le_trans k.1 h, fun x hx => Bdd.mono h (k.2 x hx)⟩⟩
def Sml {α : Type} [Bdd α] (x : α) : Prop := Bdd.bd 1048576 x
def Med {α : Type} [Bdd α] (x : α) : Prop := Bdd.bd 1099511627776 x
theorem Sml.mem {α : Type} [Bdd α] {xs : List α} (h : Sml xs) {i : Nat} (hi : i < xs.length) : Sml xs[i] := h.2 _ (List.getElem_mem hi)
theorem Med.mem {α : Type} [Bdd α] {xs : List α} (h : Med xs) {i : Nat} (hi : i < xs.length) : Med xs[i] := h.2 _ (List.getElem_mem hi)
class Cnt (α : Type) where
 cnt : α → Nat
instance : Cnt Int := ⟨fun _ => 1⟩
instance {α : Type} [Cnt α] : Cnt (List α) := ⟨fun xs => (xs.map Cnt.cnt).sum⟩
end Go.Tc
namespace Go.Tc
open Go
def kindsOk (P : Program) (fn : Func) (c : OpenClaim) : Bool := ((c.kinds == (if c.domain.isEmpty then [] else fn.params.toList.map fun t => match P.underlying t with | some (.int k) => some k | _ => none)) && (c.pinned == c.pinnedBy))
theorem joined_of {P : Program} {f : FuncId} {fn : Func} {s : ChangeSpec} {c : OpenClaim} (h1 : c.wf (OpenSpec.ofChange s) = true) (h2 : laidOutB P = true)
  (h3 : (mapsRowed P && fn.params.all (P.readableRec ·) && namedTie P c.named s.vars) = true) (h4 : ((c.stops == []) && (P.stops == []) && (c.knobs == []) && (P.stopKnobs == [])) = true)
  (h5 : (c.inPlace == P.inPlace f) = true) (h6 : (c.unfollowed == P.unfollowed f) = true) (h7 : (c.recurses == P.recurses f) = true) (h8 : (c.named == P.varsNamed f) = true)
  (h9 : ((c.maps == (fn.params.toList ++ s.plain.varTypes P).any (P.mapsRec ·)) && (c.ifaces == (fn.params.toList ++ s.plain.varTypes P).any (P.ifacesRec ·)) && (c.mapsOut == P.mapsAmong fn.resultTypes.toList)) = true)
  (h10 : ((c.loops == (fn.params.toList ++ s.plain.varTypes P).any (P.loopsFrom ·)) && (c.wideKeys == (fn.params.toList ++ s.plain.varTypes P ++ fn.resultTypes.toList).any (P.wideKeysFrom ·))) = true)
  (h11 : (s.vars.all (P.varReadable ·) && fn.resultTypes.all (fun t => P.readableRec t && decide (t < P.types.size)) && (c.ifacesOut == fn.resultTypes.toList.any (P.ifacesRec ·)) && (c.loopsOut == fn.resultTypes.toList.any (P.loopsFrom ·)) && (c.plainKeys == P.plainKeys) && c.shortTexts.isNone) = true)
  (h12 : P.stopsHeard = true) (h13 : P.mayEnter = true) (h14 : (c.lifted == P.liftsFinal) = true) (h15 : (P.make == some c.make) = true)
  (h16 : kindsOk P fn c = true)
  (h17 : ((c.veiled == (fn.params.toList ++ s.plain.varTypes P ++ fn.resultTypes.toList).any (P.veiledRec ·)) && c.veiledFits P fn.params.toList (fn.params.toList ++ s.plain.varTypes P ++ fn.resultTypes.toList)) = true) :
  joinedFacts P f fn s c = true := by
 unfold joinedFacts
 unfold kindsOk at h16
 rw [Bool.and_eq_true, Bool.and_eq_true] at h3
 rw [Bool.and_eq_true, Bool.and_eq_true, Bool.and_eq_true] at h4
 rw [Bool.and_eq_true, Bool.and_eq_true] at h9
 rw [Bool.and_eq_true] at h10 h16 h17
 rw [Bool.and_eq_true, Bool.and_eq_true, Bool.and_eq_true, Bool.and_eq_true, Bool.and_eq_true] at h11
 obtain ⟨⟨a1, a2⟩, a3⟩ := h3
 obtain ⟨⟨⟨b1, b2⟩, b3⟩, b4⟩ := h4
 obtain ⟨⟨c1, c2⟩, c3⟩ := h9
 obtain ⟨d1, d2⟩ := h10
 obtain ⟨⟨⟨⟨⟨e1, e2⟩, e3⟩, e4⟩, e5⟩, e6⟩ := h11
 obtain ⟨f1, f2⟩ := h16
 obtain ⟨g1, g2⟩ := h17
 iterate 31 (refine Bool.and_eq_true_iff.2 ⟨?_, by assumption⟩)
 assumption
end Go.Tc
namespace Go.Tc
open Go Go.RowKit
end Go.Tc
namespace Go.Tc
open Go Go.RowKit
end Go.Tc
