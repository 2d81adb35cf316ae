/-
  Readings of Go values as plain Lean data, with a set of blocks that the reading avoids; facts of a symbolic heap; their frame laws. No condition.
-/
import Derived.WalkKit
namespace Go.Tc
open Go Go.RowKit

/-- How a Lean type is laid in cells. 'rdc A w cs x': the cells cs read as x in the world w, by way of blocks outside A alone. -/
class Rep (α : Type) where
  sz : Nat
  agg : Bool
  rdc : (Nat → Prop) → World → List Value → α → Prop
  len : ∀ {A w cs x}, rdc A w cs x → cs.length = sz
  one : ∀ {A w cs x}, rdc A w cs x → ∀ c ∈ cs, c.oneCell' = true
  pos : 0 < sz
  single : agg = false → sz = 1
  frame : ∀ {A A' w w' cs x}, rdc A w cs x → (∀ k, k < w.heap.size → ¬ A k → w'.heap[k]? = w.heap[k]? ∧ ¬ A' k) → rdc A' w' cs x
  /-- The deep reading: B lists the blocks of all rows that x is made of. -/
  dc : World → List Value → α → List Nat → Prop
  dcf : ∀ {w w' cs x B}, dc w cs x B → (∀ b ∈ B, w'.heap[b]? = w.heap[b]?) → dc w' cs x B
  dcr : ∀ {A w cs x B}, dc w cs x B → (∀ b ∈ B, ¬ A b) → rdc A w cs x
  dlt : ∀ {w cs x B}, dc w cs x B → ∀ b ∈ B, b < w.heap.size
  /-- No memory hangs on it. -/
  flat : Bool
  flt : ∀ {A w cs x}, flat = true → rdc A w cs x → dc w cs x []

def Rep.val (α : Type) [Rep α] (cs : List Value) : Value := if Rep.agg α then .agg cs.toArray else cs.headD undef

/-- The value v reads as x. -/
def Rd {α : Type} [Rep α] (A : Nat → Prop) (w : World) (v : Value) (x : α) : Prop := ∃ cs, v = Rep.val α cs ∧ Rep.rdc A w cs x

theorem Rd.frame {α : Type} [Rep α] {A A' : Nat → Prop} {w w' : World} {v : Value} {x : α} (h : Rd A w v x)
    (hf : ∀ k, k < w.heap.size → ¬ A k → w'.heap[k]? = w.heap[k]? ∧ ¬ A' k) : Rd A' w' v x := by
  obtain ⟨cs, hv, hr⟩ := h
  exact ⟨cs, hv, Rep.frame hr hf⟩

instance : Rep Int where
  sz := 1
  agg := false
  rdc _ _ cs x := cs = [.int .i64 x]
  len h := by subst h; rfl
  one h := by subst h; simp [Value.oneCell']
  pos := by decide
  single _ := rfl
  frame h _ := h
  dc _ cs x B := cs = [.int .i64 x] ∧ B = []
  dcf h _ := h
  dcr h _ := h.1
  dlt h b hb := by simp [h.2] at hb
  flat := true
  flt _ h := ⟨h, rfl⟩

instance : Rep Bool where
  sz := 1
  agg := false
  rdc _ _ cs x := cs = [.bool x]
  len h := by subst h; rfl
  one h := by subst h; simp [Value.oneCell']
  pos := by decide
  single _ := rfl
  frame h _ := h
  dc _ cs x B := cs = [.bool x] ∧ B = []
  dcf h _ := h
  dcr h _ := h.1
  dlt h b hb := by simp [h.2] at hb
  flat := true
  flt _ h := ⟨h, rfl⟩

instance : Rep ByteArray where
  sz := 1
  agg := false
  rdc _ _ cs x := cs = [.string x]
  len h := by subst h; rfl
  one h := by subst h; simp [Value.oneCell']
  pos := by decide
  single _ := rfl
  frame h _ := h
  dc _ cs x B := cs = [.string x] ∧ B = []
  dcf h _ := h
  dcr h _ := h.1
  dlt h b hb := by simp [h.2] at hb
  flat := true
  flt _ h := ⟨h, rfl⟩

def RowAt (w : World) (b off : Nat) (cs : List Value) : Prop := ∀ j u, cs[j]? = some u → w.cell? ⟨b, off + j, none⟩ = some u

theorem RowAt.frame {w w' : World} {b off : Nat} {cs : List Value} (h : RowAt w b off cs) (hb : w'.heap[b]? = w.heap[b]?) : RowAt w' b off cs := by
  intro j u hj
  have := h j u hj
  simpa [World.cell?, hb] using this

def RdL {α : Type} [Rep α] (A : Nat → Prop) (w : World) : List Value → List α → Prop
  | cs, [] => cs = []
  | cs, x :: r => ∃ c1 c2, cs = c1 ++ c2 ∧ Rep.rdc A w c1 x ∧ RdL A w c2 r

theorem RdL.frame {α : Type} [Rep α] {A A' : Nat → Prop} {w w' : World} (hf : ∀ k, k < w.heap.size → ¬ A k → w'.heap[k]? = w.heap[k]? ∧ ¬ A' k) :
    ∀ (xs : List α) (cs : List Value), RdL A w cs xs → RdL A' w' cs xs
  | [], _, h => h
  | _ :: r, _, ⟨c1, c2, e, h1, h2⟩ => ⟨c1, c2, e, Rep.frame h1 hf, RdL.frame hf r c2 h2⟩

theorem RdL.length {α : Type} [Rep α] {A : Nat → Prop} {w : World} : ∀ (xs : List α) (cs : List Value), RdL A w cs xs → cs.length = xs.length * Rep.sz α
  | [], _, h => by simp [RdL] at h; simp [h]
  | x :: r, _, ⟨c1, c2, e, h1, h2⟩ => by
    have a := Rep.len h1
    have b := RdL.length r c2 h2
    subst e
    simp [a, b, Nat.add_mul]; omega

theorem RdL.one {α : Type} [Rep α] {A : Nat → Prop} {w : World} : ∀ (xs : List α) (cs : List Value), RdL A w cs xs → ∀ c ∈ cs, c.oneCell' = true
  | [], _, h => by simp [RdL] at h; simp [h]
  | x :: r, _, ⟨c1, c2, e, h1, h2⟩ => by
    subst e
    intro c hc
    rcases List.mem_append.1 hc with hc | hc
    · exact Rep.one h1 c hc
    · exact RdL.one r c2 h2 c hc

theorem RdL.append {α : Type} [Rep α] {A : Nat → Prop} {w : World} : ∀ (xs ys : List α) (cs ds : List Value), RdL A w cs xs → RdL A w ds ys → RdL A w (cs ++ ds) (xs ++ ys)
  | [], ys, cs, ds, h, k => by simp [RdL] at h; subst h; simpa using k
  | x :: r, ys, _, ds, ⟨c1, c2, e, h1, h2⟩, k => by
    subst e
    exact ⟨c1, c2 ++ ds, by simp, h1, RdL.append r ys c2 ds h2 k⟩

/-- The i-th element's cells. -/
theorem RdL.get {α : Type} [Rep α] {A : Nat → Prop} {w : World} : ∀ (xs : List α) (cs : List Value) (i : Nat) (x : α), RdL A w cs xs → xs[i]? = some x →
    ∃ c, c.length = Rep.sz α ∧ Rep.rdc A w c x ∧ ∀ j u, c[j]? = some u → cs[i * Rep.sz α + j]? = some u
  | [], _, i, x, _, hx => by simp at hx
  | y :: r, _, 0, x, ⟨c1, c2, e, h1, h2⟩, hx => by
    simp at hx
    subst hx e
    refine ⟨c1, Rep.len h1, h1, fun j u hj => ?_⟩
    have hlt : j < c1.length := (List.getElem?_eq_some_iff.1 hj).1
    simp [List.getElem?_append_left hlt, hj]
  | y :: r, _, i + 1, x, ⟨c1, c2, e, h1, h2⟩, hx => by
    subst e
    obtain ⟨c, hl, hr, hc⟩ := RdL.get r c2 i x h2 (by simpa using hx)
    refine ⟨c, hl, hr, fun j u hj => ?_⟩
    have := hc j u hj
    have hl1 := Rep.len h1
    rw [List.getElem?_append_right (by rw [hl1, Nat.add_mul]; omega), hl1]
    rw [← this]
    congr 1
    rw [Nat.add_mul]; omega

/-- A slice's value reads as a list. -/
def RdS {α : Type} [Rep α] (A : Nat → Prop) (w : World) (v : Value) (xs : List α) : Prop :=
  (xs = [] ∧ ∃ ad cap, v = .slice ad 0 cap ∧ (ad = none → cap = 0) ∧ cap ≤ maxLen) ∨
  ∃ b off cap cells, v = .slice (some ⟨b, off, none⟩) xs.length cap ∧ ¬ A b ∧ b < w.heap.size ∧ xs.length ≤ cap ∧ cap ≤ maxLen ∧ RowAt w b off cells ∧ RdL A w cells xs

theorem RdS.frame {α : Type} [Rep α] {A A' : Nat → Prop} {w w' : World} {v : Value} {xs : List α} (h : RdS A w v xs)
    (hf : ∀ k, k < w.heap.size → ¬ A k → w'.heap[k]? = w.heap[k]? ∧ ¬ A' k) : RdS A' w' v xs := by
  rcases h with h | ⟨b, off, cap, cells, h1, h2, h3, h4, h5, h6, h7⟩
  · exact .inl h
  · obtain ⟨e1, e2⟩ := hf b h3 h2
    refine .inr ⟨b, off, cap, cells, h1, e2, ?_, h4, h5, h6.frame e1, RdL.frame hf _ _ h7⟩
    have : w'.heap[b]? ≠ none := by rw [e1]; simp [h3]
    simpa using this

theorem RdS.oneCell {α : Type} [Rep α] {A : Nat → Prop} {w : World} {v : Value} {xs : List α} (h : RdS A w v xs) : v.oneCell' = true := by
  rcases h with ⟨_, ad, cap, rfl, _⟩ | ⟨b, off, cap, cells, rfl, _⟩ <;> rfl

theorem RdS.nil {α : Type} [Rep α] {A : Nat → Prop} {w : World} : RdS A w (.slice none 0 0) ([] : List α) := .inl ⟨rfl, none, 0, rfl, fun _ => rfl, Nat.zero_le _⟩
/-- Cells of a row, read deep. -/
def DL {α : Type} [Rep α] (w : World) : List Value → List α → List Nat → Prop
  | cs, [], B => cs = [] ∧ B = []
  | cs, x :: r, B => ∃ c1 c2 B1 B2, cs = c1 ++ c2 ∧ B = B1 ++ B2 ∧ Rep.dc w c1 x B1 ∧ DL w c2 r B2
theorem DL.frame {α : Type} [Rep α] {w w' : World} : ∀ (xs : List α) (cs : List Value) (B : List Nat), DL w cs xs B → (∀ b ∈ B, w'.heap[b]? = w.heap[b]?) → DL w' cs xs B
  | [], _, _, h, _ => h
  | _ :: r, _, _, ⟨c1, c2, B1, B2, e, eB, h1, h2⟩, hf => by
    subst eB
    exact ⟨c1, c2, B1, B2, e, rfl, Rep.dcf h1 fun b hb => hf b (by simp [hb]), DL.frame r c2 B2 h2 fun b hb => hf b (by simp [hb])⟩
theorem DL.rd {α : Type} [Rep α] {A : Nat → Prop} {w : World} : ∀ (xs : List α) (cs : List Value) (B : List Nat), DL w cs xs B → (∀ b ∈ B, ¬ A b) → RdL A w cs xs
  | [], _, _, h, _ => h.1
  | _ :: r, _, _, ⟨c1, c2, B1, B2, e, eB, h1, h2⟩, hf => by
    subst eB
    exact ⟨c1, c2, e, Rep.dcr h1 fun b hb => hf b (by simp [hb]), DL.rd r c2 B2 h2 fun b hb => hf b (by simp [hb])⟩
theorem DL.lt {α : Type} [Rep α] {w : World} : ∀ (xs : List α) (cs : List Value) (B : List Nat), DL w cs xs B → ∀ b ∈ B, b < w.heap.size
  | [], _, _, h, b, hb => by simp [h.2] at hb
  | _ :: r, _, _, ⟨c1, c2, B1, B2, e, eB, h1, h2⟩, b, hb => by
    subst eB
    rcases List.mem_append.1 hb with hb | hb
    · exact Rep.dlt h1 b hb
    · exact DL.lt r c2 B2 h2 b hb
theorem DL.flat {α : Type} [Rep α] {A : Nat → Prop} {w : World} (hfl : Rep.flat α = true) : ∀ (xs : List α) (cs : List Value), RdL A w cs xs → DL w cs xs []
  | [], _, h => ⟨h, rfl⟩
  | _ :: r, _, ⟨c1, c2, e, h1, h2⟩ => ⟨c1, c2, [], [], e, rfl, Rep.flt hfl h1, DL.flat hfl r c2 h2⟩
/-- A slice's value, read deep. -/
def DS {α : Type} [Rep α] (w : World) (v : Value) (xs : List α) (B : List Nat) : Prop :=
  (xs = [] ∧ B = [] ∧ ∃ ad cap, v = .slice ad 0 cap ∧ (ad = none → cap = 0) ∧ cap ≤ maxLen) ∨
  ∃ b off cap cells Bs arr t, v = .slice (some ⟨b, off, none⟩) xs.length cap ∧ w.heap[b]? = some (.cells arr t (0, 0)) ∧ xs.length ≤ cap ∧ cap ≤ maxLen ∧ RowAt w b off cells ∧ DL w cells xs Bs ∧ B = b :: Bs
theorem DS.frame {α : Type} [Rep α] {w w' : World} {v : Value} {xs : List α} {B : List Nat} (h : DS w v xs B) (hf : ∀ b ∈ B, w'.heap[b]? = w.heap[b]?) : DS w' v xs B := by
  rcases h with h | ⟨b, off, cap, cells, Bs, arr, t, h1, h2, h3, h4, h5, h6, rfl⟩
  · exact .inl h
  · have hb := hf b (by simp)
    exact .inr ⟨b, off, cap, cells, Bs, arr, t, h1, by rw [hb, h2], h3, h4, h5.frame hb, DL.frame _ _ _ h6 fun k hk => hf k (by simp [hk]), rfl⟩
theorem DS.rd {α : Type} [Rep α] {A : Nat → Prop} {w : World} {v : Value} {xs : List α} {B : List Nat} (h : DS w v xs B) (hA : ∀ b ∈ B, ¬ A b) : RdS A w v xs := by
  rcases h with ⟨h1, _, h2⟩ | ⟨b, off, cap, cells, Bs, arr, t, h1, h2, h3, h4, h5, h6, rfl⟩
  · exact .inl ⟨h1, h2⟩
  · exact .inr ⟨b, off, cap, cells, h1, hA b (by simp), (Array.getElem?_eq_some_iff.1 h2).1, h3, h4, h5, DL.rd _ _ _ h6 fun k hk => hA k (by simp [hk])⟩
theorem DS.lt {α : Type} [Rep α] {w : World} {v : Value} {xs : List α} {B : List Nat} (h : DS w v xs B) : ∀ b ∈ B, b < w.heap.size := by
  rcases h with ⟨_, rfl, _⟩ | ⟨b, off, cap, cells, Bs, arr, t, h1, h2, h3, h4, h5, h6, rfl⟩
  · simp
  · intro k hk
    rcases List.mem_cons.1 hk with rfl | hk
    · exact (Array.getElem?_eq_some_iff.1 h2).1
    · exact DL.lt _ _ _ h6 k hk
instance {α : Type} [Rep α] : Rep (List α) where
  sz := 1
  agg := false
  rdc A w cs xs := ∃ v, cs = [v] ∧ RdS A w v xs
  len h := by obtain ⟨v, rfl, _⟩ := h; rfl
  one h := by
    obtain ⟨v, rfl, h⟩ := h
    simpa using h.oneCell
  pos := by decide
  single _ := rfl
  frame h hf := by
    obtain ⟨v, e, h⟩ := h
    exact ⟨v, e, h.frame hf⟩
  dc w cs xs B := ∃ v, cs = [v] ∧ DS w v xs B
  dcf h hf := by
    obtain ⟨v, e, h⟩ := h
    exact ⟨v, e, h.frame hf⟩
  dcr h hA := by
    obtain ⟨v, e, h⟩ := h
    exact ⟨v, e, h.rd hA⟩
  dlt h := by
    obtain ⟨v, _, h⟩ := h
    exact h.lt
  flat := false
  flt h := by cases h

theorem Rd.int {A : Nat → Prop} {w : World} {v : Value} {x : Int} (h : Rd A w v x) : v = .int .i64 x := by
  obtain ⟨cs, rfl, h⟩ := h
  simp only [Rep.rdc] at h
  subst h; rfl
theorem Rd.bool {A : Nat → Prop} {w : World} {v : Value} {x : Bool} (h : Rd A w v x) : v = .bool x := by
  obtain ⟨cs, rfl, h⟩ := h
  simp only [Rep.rdc] at h
  subst h; rfl
theorem Rd.str {A : Nat → Prop} {w : World} {v : Value} {x : ByteArray} (h : Rd A w v x) : v = .string x := by
  obtain ⟨cs, rfl, h⟩ := h
  simp only [Rep.rdc] at h
  subst h; rfl
theorem Rd.mk_int (A : Nat → Prop) (w : World) (x : Int) : Rd A w (.int .i64 x) x := ⟨_, rfl, rfl⟩
theorem Rd.mk_bool (A : Nat → Prop) (w : World) (x : Bool) : Rd A w (.bool x) x := ⟨_, rfl, rfl⟩
theorem Rd.mk_str (A : Nat → Prop) (w : World) (x : ByteArray) : Rd A w (.string x) x := ⟨_, rfl, rfl⟩
theorem Rd.sl {α : Type} [Rep α] {A : Nat → Prop} {w : World} {v : Value} {xs : List α} (h : Rd A w v xs) : RdS A w v xs := by
  obtain ⟨cs, rfl, u, rfl, h⟩ := h
  exact h
theorem Rd.mk_sl {α : Type} [Rep α] {A : Nat → Prop} {w : World} {v : Value} {xs : List α} (h : RdS A w v xs) : Rd A w v xs := ⟨[v], rfl, v, rfl, h⟩

/-- One cell reads as x. -/
theorem Rd.cell {α : Type} [Rep α] {A : Nat → Prop} {w : World} {v : Value} {x : α} (h : Rd A w v x) (ha : Rep.agg α = false) : Rep.rdc A w [v] x := by
  obtain ⟨cs, rfl, hr⟩ := h
  have hl := Rep.len hr
  rw [Rep.single ha] at hl
  match cs, hl with
  | [c], _ => simpa [Rep.val, ha] using hr
theorem Rd.of_cell {α : Type} [Rep α] {A : Nat → Prop} {w : World} {v : Value} {x : α} (ha : Rep.agg α = false) (h : Rep.rdc A w [v] x) : Rd A w v x :=
  ⟨[v], by simp [Rep.val, ha], h⟩

def Dc {α : Type} [Rep α] (w : World) (v : Value) (x : α) (B : List Nat) : Prop := ∃ cs, v = Rep.val α cs ∧ Rep.dc w cs x B
theorem Dc.frame {α : Type} [Rep α] {w w' : World} {v : Value} {x : α} {B : List Nat} (h : Dc w v x B) (hf : ∀ b ∈ B, w'.heap[b]? = w.heap[b]?) : Dc w' v x B := by
  obtain ⟨cs, h1, h2⟩ := h
  exact ⟨cs, h1, Rep.dcf h2 hf⟩
theorem Dc.rd {α : Type} [Rep α] {A : Nat → Prop} {w : World} {v : Value} {x : α} {B : List Nat} (h : Dc w v x B) (hA : ∀ b ∈ B, ¬ A b) : Rd A w v x := by
  obtain ⟨cs, h1, h2⟩ := h
  exact ⟨cs, h1, Rep.dcr h2 hA⟩
theorem Dc.lt {α : Type} [Rep α] {w : World} {v : Value} {x : α} {B : List Nat} (h : Dc w v x B) : ∀ b ∈ B, b < w.heap.size := by
  obtain ⟨cs, h1, h2⟩ := h
  exact Rep.dlt h2

/-- The call's own row: the spine lies in a block of its own, the elements read outside A. -/
def Ow {α : Type} [Rep α] (A : Nat → Prop) (w : World) (e : TypeId) (v : Value) (xs : List α) : Prop :=
  ∃ cells, w.ownsRow 0 e (Rep.sz α) v xs.length cells ∧ RdL A w cells xs

/-- A pointer to cells that read as x. -/
def RdP {α : Type} [Rep α] (A : Nat → Prop) (w : World) (p : Value) (x : α) : Prop :=
  ∃ b off cs, p = .pointer (some ⟨b, off, none⟩) ∧ ¬ A b ∧ b < w.heap.size ∧ RowAt w b off cs ∧ Rep.rdc A w cs x
/-- A pointer that came in: its block lies below B (and may be one of those that are avoided otherwise). -/
def RdA {α : Type} [Rep α] (A : Nat → Prop) (B : Nat) (w : World) (p : Value) (x : α) : Prop :=
  ∃ b off cs, p = .pointer (some ⟨b, off, none⟩) ∧ b < B ∧ RowAt w b off cs ∧ Rep.rdc A w cs x

inductive Fact : Type 1 where
  | rd {α : Type} [Rep α] (v : Value) (x : α) : Fact
  | pt {α : Type} [Rep α] (p : Value) (x : α) : Fact
  | pa {α : Type} [Rep α] (p : Value) (x : α) : Fact
  | bx (b : Nat) (t : TypeId) (cs : List Value) : Fact
  | ow {α : Type} [Rep α] (e : TypeId) (v : Value) (xs : List α) : Fact
  /-- An own row whose inner rows are frozen; B are their tokens. -/
  | od {α : Type} [Rep α] (e : TypeId) (v : Value) (xs : List α) (B : List Nat) : Fact
  /-- The tokens of a frozen datum. -/
  | tkn {α : Type} [Rep α] (v : Value) (x : α) (B : List Nat) : Fact
  /-- What hangs on the blocks of B alone, which are owned. -/
  | inv (B : List Nat) (I : World → Prop) : Fact
  /-- What hangs on no memory. -/
  | pr (p : Prop) : Fact
  /-- The blocks of C are as they were in w1. -/
  | fz (w1 : World) (C : Nat → Prop) : Fact

def Fact.owns : Fact → List Nat
  | @Fact.rd _ _ _ _ => []
  | @Fact.pt _ _ _ _ => []
  | @Fact.pa _ _ _ _ => []
  | .bx b _ _ => [b]
  | @Fact.ow _ _ _ v _ => v.ownBlock.toList
  | @Fact.od _ _ _ v _ _ => v.ownBlock.toList
  | @Fact.tkn _ _ _ _ _ => []
  | .inv B _ => B
  | .pr _ => []
  | .fz _ _ => []
def Fact.toks : Fact → List Nat
  | @Fact.od _ _ _ _ _ B => B
  | @Fact.tkn _ _ _ _ B => B
  | _ => []

/-- An own row whose inner rows lie apart, each in a block of B. -/
def OwD {α : Type} [Rep α] (w : World) (e : TypeId) (v : Value) (xs : List α) (B : List Nat) : Prop :=
  ∃ cells B0, w.ownsRow 0 e (Rep.sz α) v xs.length cells ∧ DL w cells xs B0 ∧ B0.Nodup ∧ ∀ b ∈ B0, b ∈ B
/-- A datum whose rows lie apart, each in a block of B. -/
def Dn {α : Type} [Rep α] (w : World) (v : Value) (x : α) (B : List Nat) : Prop := ∃ B0, Dc w v x B0 ∧ B0.Nodup ∧ ∀ b ∈ B0, b ∈ B

def Fact.holds (A : Nat → Prop) (B : Nat) (w : World) : Fact → Prop
  | @Fact.rd _ _ v x => Rd A w v x
  | @Fact.pt _ _ p x => RdP A w p x
  | @Fact.pa _ _ p x => RdA A B w p x
  | .bx b t cs => w.heap[b]? = some (.cells cs.toArray t (0, 0))
  | @Fact.ow _ _ e v xs => Ow A w e v xs
  | @Fact.od _ _ e v xs Bs => OwD w e v xs Bs ∧ ∀ b ∈ Bs, b < w.heap.size ∧ ¬ A b
  | @Fact.tkn _ _ v x Bs => Dn w v x Bs ∧ ∀ b ∈ Bs, b < w.heap.size ∧ ¬ A b
  | .inv B I => ∀ w' : World, (∀ b ∈ B, w'.heap[b]? = w.heap[b]?) → I w'
  | .pr p => p
  | .fz w1 C => ∀ k, C k → ¬ A k ∧ k < w.heap.size ∧ w.heap[k]? = w1.heap[k]?

abbrev Ctx := List Fact
def Ctx.owns (Γ : Ctx) : List Nat := Γ.flatMap Fact.owns
def Ctx.toks (Γ : Ctx) : List Nat := Γ.flatMap Fact.toks

/-- The symbolic heap. w0: the world at the call's begin. A: blocks of the caller's that results keep away from. -/
structure SH (A : Nat → Prop) (w0 w : World) (Γ : Ctx) : Prop where
  below : Below w0.heap.size w0 w
  av : ∀ k, A k → k < w0.heap.size
  nd : Γ.owns.Nodup
  ge : ∀ b ∈ Γ.owns, w0.heap.size ≤ b ∧ b < w.heap.size
  tnd : Γ.toks.Nodup
  tge : ∀ b ∈ Γ.toks, w0.heap.size ≤ b
  all : ∀ f ∈ Γ, f.holds (fun k => A k ∨ k ∈ Γ.owns) w0.heap.size w

theorem SH.get {A : Nat → Prop} {w0 w : World} {Γ : Ctx} (h : SH A w0 w Γ) (i : Nat) {f : Fact} (hi : Γ[i]? = some f) : f.holds (fun k => A k ∨ k ∈ Γ.owns) w0.heap.size w :=
  h.all f (List.mem_of_getElem? hi)

theorem lt_of_heap {w w' : World} {b : Nat} (h : w'.heap[b]? = w.heap[b]?) (hb : b < w.heap.size) : b < w'.heap.size := by
  have : w'.heap[b]? ≠ none := by rw [h]; simp [hb]
  simpa using this
theorem ownsRow_frame {w w' : World} {e : TypeId} {sz len : Nat} {v : Value} {cells : List Value} (h1 : w.ownsRow 0 e sz v len cells) (hown : ∀ b ∈ v.ownBlock.toList, w'.heap[b]? = w.heap[b]?) : w'.ownsRow 0 e sz v len cells := by
  obtain ⟨h3, h4⟩ := h1
  refine ⟨h3, ?_⟩
  rcases h4 with h4 | ⟨g, cap, cur, rfl, hb, hg, rest⟩
  · exact .inl h4
  · refine .inr ⟨g, cap, cur, rfl, hb, ?_, rest⟩
    rw [hown g (by simp [Value.ownBlock])]
    exact hg

/-- A fact that is no owned one, and a fact whose own blocks are not among those that change, stay. -/
theorem Fact.frame {A A' : Nat → Prop} {B : Nat} {w w' : World} {f : Fact} (h : f.holds A B w) (hown : ∀ b ∈ f.owns, w'.heap[b]? = w.heap[b]?)
    (hB : ∀ k, k < B → w'.heap[k]? = w.heap[k]?)
    (hf : ∀ k, k < w.heap.size → ¬ A k → w'.heap[k]? = w.heap[k]? ∧ ¬ A' k) : f.holds A' B w' := by
  cases f with
  | rd v x => exact Rd.frame h hf
  | pt p x =>
    obtain ⟨b, off, cs, h1, h2, h3, h4, h5⟩ := h
    obtain ⟨e1, e2⟩ := hf b h3 h2
    refine ⟨b, off, cs, h1, e2, ?_, h4.frame e1, Rep.frame h5 hf⟩
    have : w'.heap[b]? ≠ none := by rw [e1]; simp [h3]
    simpa using this
  | pa p x =>
    obtain ⟨b, off, cs, h1, h2, h4, h5⟩ := h
    exact ⟨b, off, cs, h1, h2, h4.frame (hB b h2), Rep.frame h5 hf⟩
  | bx b t cs =>
    have := hown b (by simp [Fact.owns])
    simp only [Fact.holds] at h ⊢
    rw [this, h]
  | ow e v xs =>
    obtain ⟨cells, h1, h2⟩ := h
    exact ⟨cells, ownsRow_frame h1 hown, RdL.frame hf _ _ h2⟩
  | od e v xs Bs =>
    obtain ⟨⟨cells, B0, h1, h2, h4, h5⟩, h3⟩ := h
    refine ⟨⟨cells, B0, ownsRow_frame h1 hown, DL.frame _ _ _ h2 fun b hb => (hf b (h3 b (h5 b hb)).1 (h3 b (h5 b hb)).2).1, h4, h5⟩, fun b hb => ?_⟩
    obtain ⟨e1, e2⟩ := hf b (h3 b hb).1 (h3 b hb).2
    exact ⟨lt_of_heap e1 (h3 b hb).1, e2⟩
  | tkn v x Bs =>
    obtain ⟨⟨B0, h2, h4, h5⟩, h3⟩ := h
    refine ⟨⟨B0, h2.frame fun b hb => (hf b (h3 b (h5 b hb)).1 (h3 b (h5 b hb)).2).1, h4, h5⟩, fun b hb => ?_⟩
    obtain ⟨e1, e2⟩ := hf b (h3 b hb).1 (h3 b hb).2
    exact ⟨lt_of_heap e1 (h3 b hb).1, e2⟩
  | inv B I => exact fun w2 h2 => h w2 fun b hb => (h2 b hb).trans (hown b hb)
  | pr p => exact h
  | fz w1 C =>
    intro k hk
    obtain ⟨h1, h2, h3⟩ := h k hk
    obtain ⟨e1, e2⟩ := hf k h2 h1
    refine ⟨e2, ?_, by rw [e1, h3]⟩
    have : w'.heap[k]? ≠ none := by rw [e1]; simp [h2]
    simpa using this

end Go.Tc
