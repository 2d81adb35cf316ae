/-
  Readings of Go values as plain Lean data, with a set of blocks that the reading avoids; facts of a symbolic heap; their frame laws. No condition.
-/
import Derived.WalkKit
namespace Go.Tc
open Go Go.RowKit

/-- How a Lean type is laid in cells. 'rdc A w cs x': the cells cs read as x in the world w, by way of blocks outside A alone. -/
class Rep (α : Type) where
  sz : Nat
  agg : Bool
  rdc : (Nat → Prop) → World → List Value → α → Prop
  len : ∀ {A w cs x}, rdc A w cs x → cs.length = sz
  one : ∀ {A w cs x}, rdc A w cs x → ∀ c ∈ cs, c.oneCell' = true
  pos : 0 < sz
  single : agg = false → sz = 1
  frame : ∀ {A A' w w' cs x}, rdc A w cs x → (∀ k, k < w.heap.size → ¬ A k → w'.heap[k]? = w.heap[k]? ∧ ¬ A' k) → rdc A' w' cs x

def Rep.val (α : Type) [Rep α] (cs : List Value) : Value := if Rep.agg α then .agg cs.toArray else cs.headD undef

/-- The value v reads as x. -/
def Rd {α : Type} [Rep α] (A : Nat → Prop) (w : World) (v : Value) (x : α) : Prop := ∃ cs, v = Rep.val α cs ∧ Rep.rdc A w cs x

theorem Rd.frame {α : Type} [Rep α] {A A' : Nat → Prop} {w w' : World} {v : Value} {x : α} (h : Rd A w v x)
    (hf : ∀ k, k < w.heap.size → ¬ A k → w'.heap[k]? = w.heap[k]? ∧ ¬ A' k) : Rd A' w' v x := by
  obtain ⟨cs, hv, hr⟩ := h
  exact ⟨cs, hv, Rep.frame hr hf⟩

instance : Rep Int where
  sz := 1
  agg := false
  rdc _ _ cs x := cs = [.int .i64 x]
  len h := by subst h; rfl
  one h := by subst h; simp [Value.oneCell']
  pos := by decide
  single _ := rfl
  frame h _ := h

instance : Rep Bool where
  sz := 1
  agg := false
  rdc _ _ cs x := cs = [.bool x]
  len h := by subst h; rfl
  one h := by subst h; simp [Value.oneCell']
  pos := by decide
  single _ := rfl
  frame h _ := h

instance : Rep ByteArray where
  sz := 1
  agg := false
  rdc _ _ cs x := cs = [.string x]
  len h := by subst h; rfl
  one h := by subst h; simp [Value.oneCell']
  pos := by decide
  single _ := rfl
  frame h _ := h

def RowAt (w : World) (b off : Nat) (cs : List Value) : Prop := ∀ j u, cs[j]? = some u → w.cell? ⟨b, off + j, none⟩ = some u

theorem RowAt.frame {w w' : World} {b off : Nat} {cs : List Value} (h : RowAt w b off cs) (hb : w'.heap[b]? = w.heap[b]?) : RowAt w' b off cs := by
  intro j u hj
  have := h j u hj
  simpa [World.cell?, hb] using this

def RdL {α : Type} [Rep α] (A : Nat → Prop) (w : World) : List Value → List α → Prop
  | cs, [] => cs = []
  | cs, x :: r => ∃ c1 c2, cs = c1 ++ c2 ∧ Rep.rdc A w c1 x ∧ RdL A w c2 r

theorem RdL.frame {α : Type} [Rep α] {A A' : Nat → Prop} {w w' : World} (hf : ∀ k, k < w.heap.size → ¬ A k → w'.heap[k]? = w.heap[k]? ∧ ¬ A' k) :
    ∀ (xs : List α) (cs : List Value), RdL A w cs xs → RdL A' w' cs xs
  | [], _, h => h
  | _ :: r, _, ⟨c1, c2, e, h1, h2⟩ => ⟨c1, c2, e, Rep.frame h1 hf, RdL.frame hf r c2 h2⟩

theorem RdL.length {α : Type} [Rep α] {A : Nat → Prop} {w : World} : ∀ (xs : List α) (cs : List Value), RdL A w cs xs → cs.length = xs.length * Rep.sz α
  | [], _, h => by simp [RdL] at h; simp [h]
  | x :: r, _, ⟨c1, c2, e, h1, h2⟩ => by
    have a := Rep.len h1
    have b := RdL.length r c2 h2
    subst e
    simp [a, b, Nat.add_mul]; omega

theorem RdL.one {α : Type} [Rep α] {A : Nat → Prop} {w : World} : ∀ (xs : List α) (cs : List Value), RdL A w cs xs → ∀ c ∈ cs, c.oneCell' = true
  | [], _, h => by simp [RdL] at h; simp [h]
  | x :: r, _, ⟨c1, c2, e, h1, h2⟩ => by
    subst e
    intro c hc
    rcases List.mem_append.1 hc with hc | hc
    · exact Rep.one h1 c hc
    · exact RdL.one r c2 h2 c hc

theorem RdL.append {α : Type} [Rep α] {A : Nat → Prop} {w : World} : ∀ (xs ys : List α) (cs ds : List Value), RdL A w cs xs → RdL A w ds ys → RdL A w (cs ++ ds) (xs ++ ys)
  | [], ys, cs, ds, h, k => by simp [RdL] at h; subst h; simpa using k
  | x :: r, ys, _, ds, ⟨c1, c2, e, h1, h2⟩, k => by
    subst e
    exact ⟨c1, c2 ++ ds, by simp, h1, RdL.append r ys c2 ds h2 k⟩

/-- The i-th element's cells. -/
theorem RdL.get {α : Type} [Rep α] {A : Nat → Prop} {w : World} : ∀ (xs : List α) (cs : List Value) (i : Nat) (x : α), RdL A w cs xs → xs[i]? = some x →
    ∃ c, c.length = Rep.sz α ∧ Rep.rdc A w c x ∧ ∀ j u, c[j]? = some u → cs[i * Rep.sz α + j]? = some u
  | [], _, i, x, _, hx => by simp at hx
  | y :: r, _, 0, x, ⟨c1, c2, e, h1, h2⟩, hx => by
    simp at hx
    subst hx e
    refine ⟨c1, Rep.len h1, h1, fun j u hj => ?_⟩
    have hlt : j < c1.length := (List.getElem?_eq_some_iff.1 hj).1
    simp [List.getElem?_append_left hlt, hj]
  | y :: r, _, i + 1, x, ⟨c1, c2, e, h1, h2⟩, hx => by
    subst e
    obtain ⟨c, hl, hr, hc⟩ := RdL.get r c2 i x h2 (by simpa using hx)
    refine ⟨c, hl, hr, fun j u hj => ?_⟩
    have := hc j u hj
    have hl1 := Rep.len h1
    rw [List.getElem?_append_right (by rw [hl1, Nat.add_mul]; omega), hl1]
    rw [← this]
    congr 1
    rw [Nat.add_mul]; omega

/-- A slice's value reads as a list. -/
def RdS {α : Type} [Rep α] (A : Nat → Prop) (w : World) (v : Value) (xs : List α) : Prop :=
  (xs = [] ∧ ∃ ad cap, v = .slice ad 0 cap ∧ (ad = none → cap = 0) ∧ cap ≤ maxLen) ∨
  ∃ b off cap cells, v = .slice (some ⟨b, off, none⟩) xs.length cap ∧ ¬ A b ∧ b < w.heap.size ∧ xs.length ≤ cap ∧ cap ≤ maxLen ∧ RowAt w b off cells ∧ RdL A w cells xs

theorem RdS.frame {α : Type} [Rep α] {A A' : Nat → Prop} {w w' : World} {v : Value} {xs : List α} (h : RdS A w v xs)
    (hf : ∀ k, k < w.heap.size → ¬ A k → w'.heap[k]? = w.heap[k]? ∧ ¬ A' k) : RdS A' w' v xs := by
  rcases h with h | ⟨b, off, cap, cells, h1, h2, h3, h4, h5, h6, h7⟩
  · exact .inl h
  · obtain ⟨e1, e2⟩ := hf b h3 h2
    refine .inr ⟨b, off, cap, cells, h1, e2, ?_, h4, h5, h6.frame e1, RdL.frame hf _ _ h7⟩
    have : w'.heap[b]? ≠ none := by rw [e1]; simp [h3]
    simpa using this

theorem RdS.oneCell {α : Type} [Rep α] {A : Nat → Prop} {w : World} {v : Value} {xs : List α} (h : RdS A w v xs) : v.oneCell' = true := by
  rcases h with ⟨_, ad, cap, rfl, _⟩ | ⟨b, off, cap, cells, rfl, _⟩ <;> rfl

theorem RdS.nil {α : Type} [Rep α] {A : Nat → Prop} {w : World} : RdS A w (.slice none 0 0) ([] : List α) := .inl ⟨rfl, none, 0, rfl, fun _ => rfl, Nat.zero_le _⟩
instance {α : Type} [Rep α] : Rep (List α) where
  sz := 1
  agg := false
  rdc A w cs xs := ∃ v, cs = [v] ∧ RdS A w v xs
  len h := by obtain ⟨v, rfl, _⟩ := h; rfl
  one h := by
    obtain ⟨v, rfl, h⟩ := h
    simpa using h.oneCell
  pos := by decide
  single _ := rfl
  frame h hf := by
    obtain ⟨v, e, h⟩ := h
    exact ⟨v, e, h.frame hf⟩

theorem Rd.int {A : Nat → Prop} {w : World} {v : Value} {x : Int} (h : Rd A w v x) : v = .int .i64 x := by
  obtain ⟨cs, rfl, h⟩ := h
  simp only [Rep.rdc] at h
  subst h; rfl
theorem Rd.bool {A : Nat → Prop} {w : World} {v : Value} {x : Bool} (h : Rd A w v x) : v = .bool x := by
  obtain ⟨cs, rfl, h⟩ := h
  simp only [Rep.rdc] at h
  subst h; rfl
theorem Rd.str {A : Nat → Prop} {w : World} {v : Value} {x : ByteArray} (h : Rd A w v x) : v = .string x := by
  obtain ⟨cs, rfl, h⟩ := h
  simp only [Rep.rdc] at h
  subst h; rfl
theorem Rd.mk_int (A : Nat → Prop) (w : World) (x : Int) : Rd A w (.int .i64 x) x := ⟨_, rfl, rfl⟩
theorem Rd.mk_bool (A : Nat → Prop) (w : World) (x : Bool) : Rd A w (.bool x) x := ⟨_, rfl, rfl⟩
theorem Rd.mk_str (A : Nat → Prop) (w : World) (x : ByteArray) : Rd A w (.string x) x := ⟨_, rfl, rfl⟩
theorem Rd.sl {α : Type} [Rep α] {A : Nat → Prop} {w : World} {v : Value} {xs : List α} (h : Rd A w v xs) : RdS A w v xs := by
  obtain ⟨cs, rfl, u, rfl, h⟩ := h
  exact h
theorem Rd.mk_sl {α : Type} [Rep α] {A : Nat → Prop} {w : World} {v : Value} {xs : List α} (h : RdS A w v xs) : Rd A w v xs := ⟨[v], rfl, v, rfl, h⟩

/-- One cell reads as x. -/
theorem Rd.cell {α : Type} [Rep α] {A : Nat → Prop} {w : World} {v : Value} {x : α} (h : Rd A w v x) (ha : Rep.agg α = false) : Rep.rdc A w [v] x := by
  obtain ⟨cs, rfl, hr⟩ := h
  have hl := Rep.len hr
  rw [Rep.single ha] at hl
  match cs, hl with
  | [c], _ => simpa [Rep.val, ha] using hr
theorem Rd.of_cell {α : Type} [Rep α] {A : Nat → Prop} {w : World} {v : Value} {x : α} (ha : Rep.agg α = false) (h : Rep.rdc A w [v] x) : Rd A w v x :=
  ⟨[v], by simp [Rep.val, ha], h⟩

/-- The call's own row: the spine lies in a block of its own, the elements read outside A. -/
def Ow {α : Type} [Rep α] (A : Nat → Prop) (w : World) (e : TypeId) (v : Value) (xs : List α) : Prop :=
  ∃ cells, w.ownsRow 0 e (Rep.sz α) v xs.length cells ∧ RdL A w cells xs

/-- A pointer to cells that read as x. -/
def RdP {α : Type} [Rep α] (A : Nat → Prop) (w : World) (p : Value) (x : α) : Prop :=
  ∃ b off cs, p = .pointer (some ⟨b, off, none⟩) ∧ ¬ A b ∧ b < w.heap.size ∧ RowAt w b off cs ∧ Rep.rdc A w cs x
/-- A pointer that came in: its block lies below B (and may be one of those that are avoided otherwise). -/
def RdA {α : Type} [Rep α] (A : Nat → Prop) (B : Nat) (w : World) (p : Value) (x : α) : Prop :=
  ∃ b off cs, p = .pointer (some ⟨b, off, none⟩) ∧ b < B ∧ RowAt w b off cs ∧ Rep.rdc A w cs x

inductive Fact : Type 1 where
  | rd {α : Type} [Rep α] (v : Value) (x : α) : Fact
  | pt {α : Type} [Rep α] (p : Value) (x : α) : Fact
  | pa {α : Type} [Rep α] (p : Value) (x : α) : Fact
  | bx (b : Nat) (t : TypeId) (cs : List Value) : Fact
  | ow {α : Type} [Rep α] (e : TypeId) (v : Value) (xs : List α) : Fact

def Fact.owns : Fact → List Nat
  | @Fact.rd _ _ _ _ => []
  | @Fact.pt _ _ _ _ => []
  | @Fact.pa _ _ _ _ => []
  | .bx b _ _ => [b]
  | @Fact.ow _ _ _ v _ => v.ownBlock.toList

def Fact.holds (A : Nat → Prop) (B : Nat) (w : World) : Fact → Prop
  | @Fact.rd _ _ v x => Rd A w v x
  | @Fact.pt _ _ p x => RdP A w p x
  | @Fact.pa _ _ p x => RdA A B w p x
  | .bx b t cs => w.heap[b]? = some (.cells cs.toArray t (0, 0))
  | @Fact.ow _ _ e v xs => Ow A w e v xs

abbrev Ctx := List Fact
def Ctx.owns (Γ : Ctx) : List Nat := Γ.flatMap Fact.owns

/-- The symbolic heap. w0: the world at the call's begin. A: blocks of the caller's that results keep away from. -/
structure SH (A : Nat → Prop) (w0 w : World) (Γ : Ctx) : Prop where
  below : Below w0.heap.size w0 w
  av : ∀ k, A k → k < w0.heap.size
  nd : Γ.owns.Nodup
  ge : ∀ b ∈ Γ.owns, w0.heap.size ≤ b ∧ b < w.heap.size
  all : ∀ f ∈ Γ, f.holds (fun k => A k ∨ k ∈ Γ.owns) w0.heap.size w

theorem SH.get {A : Nat → Prop} {w0 w : World} {Γ : Ctx} (h : SH A w0 w Γ) (i : Nat) {f : Fact} (hi : Γ[i]? = some f) : f.holds (fun k => A k ∨ k ∈ Γ.owns) w0.heap.size w :=
  h.all f (List.mem_of_getElem? hi)

/-- A fact that is no owned one, and a fact whose own blocks are not among those that change, stay. -/
theorem Fact.frame {A A' : Nat → Prop} {B : Nat} {w w' : World} {f : Fact} (h : f.holds A B w) (hown : ∀ b ∈ f.owns, w'.heap[b]? = w.heap[b]?)
    (hB : ∀ k, k < B → w'.heap[k]? = w.heap[k]?)
    (hf : ∀ k, k < w.heap.size → ¬ A k → w'.heap[k]? = w.heap[k]? ∧ ¬ A' k) : f.holds A' B w' := by
  cases f with
  | rd v x => exact Rd.frame h hf
  | pt p x =>
    obtain ⟨b, off, cs, h1, h2, h3, h4, h5⟩ := h
    obtain ⟨e1, e2⟩ := hf b h3 h2
    refine ⟨b, off, cs, h1, e2, ?_, h4.frame e1, Rep.frame h5 hf⟩
    have : w'.heap[b]? ≠ none := by rw [e1]; simp [h3]
    simpa using this
  | pa p x =>
    obtain ⟨b, off, cs, h1, h2, h4, h5⟩ := h
    exact ⟨b, off, cs, h1, h2, h4.frame (hB b h2), Rep.frame h5 hf⟩
  | bx b t cs =>
    have := hown b (by simp [Fact.owns])
    simp only [Fact.holds] at h ⊢
    rw [this, h]
  | ow e v xs =>
    obtain ⟨cells, h1, h2⟩ := h
    refine ⟨cells, ?_, RdL.frame hf _ _ h2⟩
    obtain ⟨h3, h4⟩ := h1
    refine ⟨h3, ?_⟩
    rcases h4 with h4 | ⟨g, cap, cur, rfl, hb, hg, rest⟩
    · exact .inl h4
    · refine .inr ⟨g, cap, cur, rfl, hb, ?_, rest⟩
      rw [hown g (by simp [Fact.owns, Value.ownBlock])]
      exact hg

end Go.Tc
