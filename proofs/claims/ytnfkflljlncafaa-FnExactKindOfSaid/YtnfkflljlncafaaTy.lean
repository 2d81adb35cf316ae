/-
  The structures of the program, as plain Lean data, and how they are laid in memory. No condition.
-/
import Derived.Test.YtnfkflljlncafaaLift
namespace Go.Fn
open Go Go.Tc

structure GTile where
  Left : Int
  Bottom : Int
  Right : Int
  Top : Int
instance : DecidableEq GTile := fun a b =>
  if h : a.Left = b.Left ∧ a.Bottom = b.Bottom ∧ a.Right = b.Right ∧ a.Top = b.Top then isTrue (by cases a; cases b; simp_all) else isFalse (by rintro rfl; simp at h)
instance : Rep GTile where
  sz := 4
  agg := true
  rdc A w cs t := cs = [.int .i64 t.Left, .int .i64 t.Bottom, .int .i64 t.Right, .int .i64 t.Top]
  len := by
    intro A w cs t h
    obtain rfl := h
    rfl
  one := by
    intro A w cs t h c hc
    obtain rfl := h
    simp only [List.mem_cons, List.not_mem_nil, or_false] at hc
    rcases hc with rfl | rfl | rfl | rfl
    · rfl
    · rfl
    · rfl
    · rfl
  pos := by decide
  single h := by cases h
  frame := by
    intro A A' w w' cs t h hf
    obtain rfl := h
    exact rfl
theorem GTile.rdmk {A : Nat → Prop} {w : World} {v0 : Value} {x0 : Int} {v1 : Value} {x1 : Int} {v2 : Value} {x2 : Int} {v3 : Value} {x3 : Int} (h0 : Rd A w v0 x0) (h1 : Rd A w v1 x1) (h2 : Rd A w v2 x2) (h3 : Rd A w v3 x3) : Rd A w (.agg #[v0, v1, v2, v3]) (⟨x0, x1, x2, x3⟩ : GTile) := by
  have e0 := Rd.int h0
  subst e0
  have e1 := Rd.int h1
  subst e1
  have e2 := Rd.int h2
  subst e2
  have e3 := Rd.int h3
  subst e3
  exact ⟨[_, _, _, _], rfl, rfl⟩
theorem GTile.open {A : Nat → Prop} {w : World} {v : Value} {t : GTile} (h : Rd A w v t) : v = .agg #[.int .i64 t.Left, .int .i64 t.Bottom, .int .i64 t.Right, .int .i64 t.Top] := by
  obtain ⟨cs, e, h⟩ := h
  subst h
  exact e
theorem GTile.opens (t : GTile) : Opens t (fun _ : Unit => .agg #[.int .i64 t.Left, .int .i64 t.Bottom, .int .i64 t.Right, .int .i64 t.Top]) (fun _ => []) := by
  intro A B w v h
  exact ⟨(), GTile.open h, by simp⟩
theorem GTile.at_Left (t : GTile) : Part 0 t t.Left := by
  intro A w cs h
  obtain rfl := h
  refine ⟨[.int .i64 t.Left], ?_, rfl⟩
  intro j u hj
  match j, hj with
  | 0, hj => simpa using hj
theorem GTile.at_Bottom (t : GTile) : Part 1 t t.Bottom := by
  intro A w cs h
  obtain rfl := h
  refine ⟨[.int .i64 t.Bottom], ?_, rfl⟩
  intro j u hj
  match j, hj with
  | 0, hj => simpa using hj
theorem GTile.at_Right (t : GTile) : Part 2 t t.Right := by
  intro A w cs h
  obtain rfl := h
  refine ⟨[.int .i64 t.Right], ?_, rfl⟩
  intro j u hj
  match j, hj with
  | 0, hj => simpa using hj
theorem GTile.at_Top (t : GTile) : Part 3 t t.Top := by
  intro A w cs h
  obtain rfl := h
  refine ⟨[.int .i64 t.Top], ?_, rfl⟩
  intro j u hj
  match j, hj with
  | 0, hj => simpa using hj
theorem GTile.zero {A : Nat → Prop} {w : World} : ∃ zc : List Value, (Value.agg #[.int .i64 0, .int .i64 0, .int .i64 0, .int .i64 0]).cells = zc.toArray ∧ Rep.rdc A w zc (⟨0, 0, 0, 0⟩ : GTile) := ⟨[.int .i64 0, .int .i64 0, .int .i64 0, .int .i64 0], rfl, rfl⟩

end Go.Fn
