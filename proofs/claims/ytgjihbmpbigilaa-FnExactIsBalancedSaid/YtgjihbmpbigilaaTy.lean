/-
  The structures of the program, as plain Lean data, and how they are laid in memory. No condition.
-/
import Derived.Test.YtgjihbmpbigilaaLift
namespace Go.Fn
open Go Go.Tc

structure GRule where
  Write : Int
  Move : Int
  Next : Int
instance : DecidableEq GRule := fun a b =>
  if h : a.Write = b.Write ∧ a.Move = b.Move ∧ a.Next = b.Next then isTrue (by cases a; cases b; simp_all) else isFalse (by rintro rfl; simp at h)
instance : Rep GRule where
  sz := 3
  agg := true
  rdc A w cs t := cs = [.int .i64 t.Write, .int .i64 t.Move, .int .i64 t.Next]
  len := by
    intro A w cs t h
    obtain rfl := h
    rfl
  one := by
    intro A w cs t h c hc
    obtain rfl := h
    simp only [List.mem_cons, List.not_mem_nil, or_false] at hc
    rcases hc with rfl | rfl | rfl
    · rfl
    · rfl
    · rfl
  pos := by decide
  single h := by cases h
  frame := by
    intro A A' w w' cs t h hf
    obtain rfl := h
    exact rfl
theorem GRule.rdmk {A : Nat → Prop} {w : World} {v0 : Value} {x0 : Int} {v1 : Value} {x1 : Int} {v2 : Value} {x2 : Int} (h0 : Rd A w v0 x0) (h1 : Rd A w v1 x1) (h2 : Rd A w v2 x2) : Rd A w (.agg #[v0, v1, v2]) (⟨x0, x1, x2⟩ : GRule) := by
  have e0 := Rd.int h0
  subst e0
  have e1 := Rd.int h1
  subst e1
  have e2 := Rd.int h2
  subst e2
  exact ⟨[_, _, _], rfl, rfl⟩
theorem GRule.open {A : Nat → Prop} {w : World} {v : Value} {t : GRule} (h : Rd A w v t) : v = .agg #[.int .i64 t.Write, .int .i64 t.Move, .int .i64 t.Next] := by
  obtain ⟨cs, e, h⟩ := h
  subst h
  exact e
theorem GRule.opens (t : GRule) : Opens t (fun _ : Unit => .agg #[.int .i64 t.Write, .int .i64 t.Move, .int .i64 t.Next]) (fun _ => []) := by
  intro A B w v h
  exact ⟨(), GRule.open h, by simp⟩
theorem GRule.at_Write (t : GRule) : Part 0 t t.Write := by
  intro A w cs h
  obtain rfl := h
  refine ⟨[.int .i64 t.Write], ?_, rfl⟩
  intro j u hj
  match j, hj with
  | 0, hj => simpa using hj
theorem GRule.at_Move (t : GRule) : Part 1 t t.Move := by
  intro A w cs h
  obtain rfl := h
  refine ⟨[.int .i64 t.Move], ?_, rfl⟩
  intro j u hj
  match j, hj with
  | 0, hj => simpa using hj
theorem GRule.at_Next (t : GRule) : Part 2 t t.Next := by
  intro A w cs h
  obtain rfl := h
  refine ⟨[.int .i64 t.Next], ?_, rfl⟩
  intro j u hj
  match j, hj with
  | 0, hj => simpa using hj
theorem GRule.zero {A : Nat → Prop} {w : World} : ∃ zc : List Value, (Value.agg #[.int .i64 0, .int .i64 0, .int .i64 0]).cells = zc.toArray ∧ Rep.rdc A w zc (⟨0, 0, 0⟩ : GRule) := ⟨[.int .i64 0, .int .i64 0, .int .i64 0], rfl, rfl⟩

structure GMachine where
  Symbols : Int
  States : Int
  Rules : (List GRule)
instance : Rep GMachine where
  sz := 3
  agg := true
  rdc A w cs t := ∃ v2, cs = [.int .i64 t.Symbols, .int .i64 t.States, v2] ∧ Rd A w v2 t.Rules
  len := by
    intro A w cs t h
    obtain ⟨v2, rfl, h2⟩ := h
    rfl
  one := by
    intro A w cs t h c hc
    obtain ⟨v2, rfl, h2⟩ := h
    simp only [List.mem_cons, List.not_mem_nil, or_false] at hc
    rcases hc with rfl | rfl | rfl
    · rfl
    · rfl
    · exact (Rd.sl h2).oneCell
  pos := by decide
  single h := by cases h
  frame := by
    intro A A' w w' cs t h hf
    obtain ⟨v2, rfl, h2⟩ := h
    exact ⟨v2, rfl, h2.frame hf⟩
theorem GMachine.rdmk {A : Nat → Prop} {w : World} {v0 : Value} {x0 : Int} {v1 : Value} {x1 : Int} {v2 : Value} {x2 : (List GRule)} (h0 : Rd A w v0 x0) (h1 : Rd A w v1 x1) (h2 : Rd A w v2 x2) : Rd A w (.agg #[v0, v1, v2]) (⟨x0, x1, x2⟩ : GMachine) := by
  have e0 := Rd.int h0
  subst e0
  have e1 := Rd.int h1
  subst e1
  exact ⟨[_, _, _], rfl, v2, rfl, h2⟩
theorem GMachine.open {A : Nat → Prop} {w : World} {v : Value} {t : GMachine} (h : Rd A w v t) : ∃ v2, v = .agg #[.int .i64 t.Symbols, .int .i64 t.States, v2] ∧ Rd A w v2 t.Rules := by
  obtain ⟨cs, e, h⟩ := h
  obtain ⟨v2, rfl, h2⟩ := h
  exact ⟨v2, e, h2⟩
theorem GMachine.opens (t : GMachine) : Opens t (fun x : Value => .agg #[.int .i64 t.Symbols, .int .i64 t.States, x]) (fun x => [.rd x t.Rules]) := by
  intro A B w v h
  obtain ⟨v2, e, h2⟩ := GMachine.open h
  refine ⟨v2, e, ?_⟩
  intro f hf
  simp only [List.mem_cons, List.not_mem_nil, or_false] at hf
  rcases hf with rfl
  · exact ⟨rfl, h2⟩
theorem GMachine.at_Symbols (t : GMachine) : Part 0 t t.Symbols := by
  intro A w cs h
  obtain ⟨v2, rfl, h2⟩ := h
  refine ⟨[.int .i64 t.Symbols], ?_, rfl⟩
  intro j u hj
  match j, hj with
  | 0, hj => simpa using hj
theorem GMachine.at_States (t : GMachine) : Part 1 t t.States := by
  intro A w cs h
  obtain ⟨v2, rfl, h2⟩ := h
  refine ⟨[.int .i64 t.States], ?_, rfl⟩
  intro j u hj
  match j, hj with
  | 0, hj => simpa using hj
theorem GMachine.at_Rules (t : GMachine) : Part 2 t t.Rules := by
  intro A w cs h
  obtain ⟨v2, rfl, h2⟩ := h
  refine ⟨[v2], ?_, h2.cell rfl⟩
  intro j u hj
  match j, hj with
  | 0, hj => simpa using hj
theorem GMachine.zero {A : Nat → Prop} {w : World} : ∃ zc : List Value, (Value.agg #[.int .i64 0, .int .i64 0, .slice none 0 0]).cells = zc.toArray ∧ Rep.rdc A w zc (⟨0, 0, []⟩ : GMachine) := ⟨[.int .i64 0, .int .i64 0, .slice none 0 0], rfl, _, rfl, rdNil⟩

structure GConfig where
  State : Int
  Left : (List Int)
  Right : (List Int)
instance : DecidableEq GConfig := fun a b =>
  if h : a.State = b.State ∧ a.Left = b.Left ∧ a.Right = b.Right then isTrue (by cases a; cases b; simp_all) else isFalse (by rintro rfl; simp at h)
instance : Rep GConfig where
  sz := 3
  agg := true
  rdc A w cs t := ∃ v1 v2, cs = [.int .i64 t.State, v1, v2] ∧ Rd A w v1 t.Left ∧ Rd A w v2 t.Right
  len := by
    intro A w cs t h
    obtain ⟨v1, v2, rfl, h1, h2⟩ := h
    rfl
  one := by
    intro A w cs t h c hc
    obtain ⟨v1, v2, rfl, h1, h2⟩ := h
    simp only [List.mem_cons, List.not_mem_nil, or_false] at hc
    rcases hc with rfl | rfl | rfl
    · rfl
    · exact (Rd.sl h1).oneCell
    · exact (Rd.sl h2).oneCell
  pos := by decide
  single h := by cases h
  frame := by
    intro A A' w w' cs t h hf
    obtain ⟨v1, v2, rfl, h1, h2⟩ := h
    exact ⟨v1, v2, rfl, h1.frame hf, h2.frame hf⟩
theorem GConfig.rdmk {A : Nat → Prop} {w : World} {v0 : Value} {x0 : Int} {v1 : Value} {x1 : (List Int)} {v2 : Value} {x2 : (List Int)} (h0 : Rd A w v0 x0) (h1 : Rd A w v1 x1) (h2 : Rd A w v2 x2) : Rd A w (.agg #[v0, v1, v2]) (⟨x0, x1, x2⟩ : GConfig) := by
  have e0 := Rd.int h0
  subst e0
  exact ⟨[_, _, _], rfl, v1, v2, rfl, h1, h2⟩
theorem GConfig.open {A : Nat → Prop} {w : World} {v : Value} {t : GConfig} (h : Rd A w v t) : ∃ v1 v2, v = .agg #[.int .i64 t.State, v1, v2] ∧ Rd A w v1 t.Left ∧ Rd A w v2 t.Right := by
  obtain ⟨cs, e, h⟩ := h
  obtain ⟨v1, v2, rfl, h1, h2⟩ := h
  exact ⟨v1, v2, e, h1, h2⟩
theorem GConfig.opens (t : GConfig) : Opens t (fun x : Value × Value => .agg #[.int .i64 t.State, x.1, x.2]) (fun x => [.rd x.1 t.Left, .rd x.2 t.Right]) := by
  intro A B w v h
  obtain ⟨v1, v2, e, h1, h2⟩ := GConfig.open h
  refine ⟨(v1, v2), e, ?_⟩
  intro f hf
  simp only [List.mem_cons, List.not_mem_nil, or_false] at hf
  rcases hf with rfl | rfl
  · exact ⟨rfl, h1⟩
  · exact ⟨rfl, h2⟩
theorem GConfig.at_State (t : GConfig) : Part 0 t t.State := by
  intro A w cs h
  obtain ⟨v1, v2, rfl, h1, h2⟩ := h
  refine ⟨[.int .i64 t.State], ?_, rfl⟩
  intro j u hj
  match j, hj with
  | 0, hj => simpa using hj
theorem GConfig.at_Left (t : GConfig) : Part 1 t t.Left := by
  intro A w cs h
  obtain ⟨v1, v2, rfl, h1, h2⟩ := h
  refine ⟨[v1], ?_, h1.cell rfl⟩
  intro j u hj
  match j, hj with
  | 0, hj => simpa using hj
theorem GConfig.at_Right (t : GConfig) : Part 2 t t.Right := by
  intro A w cs h
  obtain ⟨v1, v2, rfl, h1, h2⟩ := h
  refine ⟨[v2], ?_, h2.cell rfl⟩
  intro j u hj
  match j, hj with
  | 0, hj => simpa using hj
theorem GConfig.zero {A : Nat → Prop} {w : World} : ∃ zc : List Value, (Value.agg #[.int .i64 0, .slice none 0 0, .slice none 0 0]).cells = zc.toArray ∧ Rep.rdc A w zc (⟨0, [], []⟩ : GConfig) := ⟨[.int .i64 0, .slice none 0 0, .slice none 0 0], rfl, _, _, rfl, rdNil, rdNil⟩

structure GTile where
  Left : Int
  Bottom : Int
  Right : Int
  Top : Int
instance : DecidableEq GTile := fun a b =>
  if h : a.Left = b.Left ∧ a.Bottom = b.Bottom ∧ a.Right = b.Right ∧ a.Top = b.Top then isTrue (by cases a; cases b; simp_all) else isFalse (by rintro rfl; simp at h)
instance : Rep GTile where
  sz := 4
  agg := true
  rdc A w cs t := cs = [.int .i64 t.Left, .int .i64 t.Bottom, .int .i64 t.Right, .int .i64 t.Top]
  len := by
    intro A w cs t h
    obtain rfl := h
    rfl
  one := by
    intro A w cs t h c hc
    obtain rfl := h
    simp only [List.mem_cons, List.not_mem_nil, or_false] at hc
    rcases hc with rfl | rfl | rfl | rfl
    · rfl
    · rfl
    · rfl
    · rfl
  pos := by decide
  single h := by cases h
  frame := by
    intro A A' w w' cs t h hf
    obtain rfl := h
    exact rfl
theorem GTile.rdmk {A : Nat → Prop} {w : World} {v0 : Value} {x0 : Int} {v1 : Value} {x1 : Int} {v2 : Value} {x2 : Int} {v3 : Value} {x3 : Int} (h0 : Rd A w v0 x0) (h1 : Rd A w v1 x1) (h2 : Rd A w v2 x2) (h3 : Rd A w v3 x3) : Rd A w (.agg #[v0, v1, v2, v3]) (⟨x0, x1, x2, x3⟩ : GTile) := by
  have e0 := Rd.int h0
  subst e0
  have e1 := Rd.int h1
  subst e1
  have e2 := Rd.int h2
  subst e2
  have e3 := Rd.int h3
  subst e3
  exact ⟨[_, _, _, _], rfl, rfl⟩
theorem GTile.open {A : Nat → Prop} {w : World} {v : Value} {t : GTile} (h : Rd A w v t) : v = .agg #[.int .i64 t.Left, .int .i64 t.Bottom, .int .i64 t.Right, .int .i64 t.Top] := by
  obtain ⟨cs, e, h⟩ := h
  subst h
  exact e
theorem GTile.opens (t : GTile) : Opens t (fun _ : Unit => .agg #[.int .i64 t.Left, .int .i64 t.Bottom, .int .i64 t.Right, .int .i64 t.Top]) (fun _ => []) := by
  intro A B w v h
  exact ⟨(), GTile.open h, by simp⟩
theorem GTile.at_Left (t : GTile) : Part 0 t t.Left := by
  intro A w cs h
  obtain rfl := h
  refine ⟨[.int .i64 t.Left], ?_, rfl⟩
  intro j u hj
  match j, hj with
  | 0, hj => simpa using hj
theorem GTile.at_Bottom (t : GTile) : Part 1 t t.Bottom := by
  intro A w cs h
  obtain rfl := h
  refine ⟨[.int .i64 t.Bottom], ?_, rfl⟩
  intro j u hj
  match j, hj with
  | 0, hj => simpa using hj
theorem GTile.at_Right (t : GTile) : Part 2 t t.Right := by
  intro A w cs h
  obtain rfl := h
  refine ⟨[.int .i64 t.Right], ?_, rfl⟩
  intro j u hj
  match j, hj with
  | 0, hj => simpa using hj
theorem GTile.at_Top (t : GTile) : Part 3 t t.Top := by
  intro A w cs h
  obtain rfl := h
  refine ⟨[.int .i64 t.Top], ?_, rfl⟩
  intro j u hj
  match j, hj with
  | 0, hj => simpa using hj
theorem GTile.zero {A : Nat → Prop} {w : World} : ∃ zc : List Value, (Value.agg #[.int .i64 0, .int .i64 0, .int .i64 0, .int .i64 0]).cells = zc.toArray ∧ Rep.rdc A w zc (⟨0, 0, 0, 0⟩ : GTile) := ⟨[.int .i64 0, .int .i64 0, .int .i64 0, .int .i64 0], rfl, rfl⟩

structure GDomino where
  Top : (List Int)
  Bottom : (List Int)
instance : DecidableEq GDomino := fun a b =>
  if h : a.Top = b.Top ∧ a.Bottom = b.Bottom then isTrue (by cases a; cases b; simp_all) else isFalse (by rintro rfl; simp at h)
instance : Rep GDomino where
  sz := 2
  agg := true
  rdc A w cs t := ∃ v0 v1, cs = [v0, v1] ∧ Rd A w v0 t.Top ∧ Rd A w v1 t.Bottom
  len := by
    intro A w cs t h
    obtain ⟨v0, v1, rfl, h0, h1⟩ := h
    rfl
  one := by
    intro A w cs t h c hc
    obtain ⟨v0, v1, rfl, h0, h1⟩ := h
    simp only [List.mem_cons, List.not_mem_nil, or_false] at hc
    rcases hc with rfl | rfl
    · exact (Rd.sl h0).oneCell
    · exact (Rd.sl h1).oneCell
  pos := by decide
  single h := by cases h
  frame := by
    intro A A' w w' cs t h hf
    obtain ⟨v0, v1, rfl, h0, h1⟩ := h
    exact ⟨v0, v1, rfl, h0.frame hf, h1.frame hf⟩
theorem GDomino.rdmk {A : Nat → Prop} {w : World} {v0 : Value} {x0 : (List Int)} {v1 : Value} {x1 : (List Int)} (h0 : Rd A w v0 x0) (h1 : Rd A w v1 x1) : Rd A w (.agg #[v0, v1]) (⟨x0, x1⟩ : GDomino) := by
  exact ⟨[_, _], rfl, v0, v1, rfl, h0, h1⟩
theorem GDomino.open {A : Nat → Prop} {w : World} {v : Value} {t : GDomino} (h : Rd A w v t) : ∃ v0 v1, v = .agg #[v0, v1] ∧ Rd A w v0 t.Top ∧ Rd A w v1 t.Bottom := by
  obtain ⟨cs, e, h⟩ := h
  obtain ⟨v0, v1, rfl, h0, h1⟩ := h
  exact ⟨v0, v1, e, h0, h1⟩
theorem GDomino.opens (t : GDomino) : Opens t (fun x : Value × Value => .agg #[x.1, x.2]) (fun x => [.rd x.1 t.Top, .rd x.2 t.Bottom]) := by
  intro A B w v h
  obtain ⟨v0, v1, e, h0, h1⟩ := GDomino.open h
  refine ⟨(v0, v1), e, ?_⟩
  intro f hf
  simp only [List.mem_cons, List.not_mem_nil, or_false] at hf
  rcases hf with rfl | rfl
  · exact ⟨rfl, h0⟩
  · exact ⟨rfl, h1⟩
theorem GDomino.at_Top (t : GDomino) : Part 0 t t.Top := by
  intro A w cs h
  obtain ⟨v0, v1, rfl, h0, h1⟩ := h
  refine ⟨[v0], ?_, h0.cell rfl⟩
  intro j u hj
  match j, hj with
  | 0, hj => simpa using hj
theorem GDomino.at_Bottom (t : GDomino) : Part 1 t t.Bottom := by
  intro A w cs h
  obtain ⟨v0, v1, rfl, h0, h1⟩ := h
  refine ⟨[v1], ?_, h1.cell rfl⟩
  intro j u hj
  match j, hj with
  | 0, hj => simpa using hj
theorem GDomino.zero {A : Nat → Prop} {w : World} : ∃ zc : List Value, (Value.agg #[.slice none 0 0, .slice none 0 0]).cells = zc.toArray ∧ Rep.rdc A w zc (⟨[], []⟩ : GDomino) := ⟨[.slice none 0 0, .slice none 0 0], rfl, _, _, rfl, rdNil, rdNil⟩

structure GRewrite where
  From : (List Int)
  To : (List Int)
instance : DecidableEq GRewrite := fun a b =>
  if h : a.From = b.From ∧ a.To = b.To then isTrue (by cases a; cases b; simp_all) else isFalse (by rintro rfl; simp at h)
instance : Rep GRewrite where
  sz := 2
  agg := true
  rdc A w cs t := ∃ v0 v1, cs = [v0, v1] ∧ Rd A w v0 t.From ∧ Rd A w v1 t.To
  len := by
    intro A w cs t h
    obtain ⟨v0, v1, rfl, h0, h1⟩ := h
    rfl
  one := by
    intro A w cs t h c hc
    obtain ⟨v0, v1, rfl, h0, h1⟩ := h
    simp only [List.mem_cons, List.not_mem_nil, or_false] at hc
    rcases hc with rfl | rfl
    · exact (Rd.sl h0).oneCell
    · exact (Rd.sl h1).oneCell
  pos := by decide
  single h := by cases h
  frame := by
    intro A A' w w' cs t h hf
    obtain ⟨v0, v1, rfl, h0, h1⟩ := h
    exact ⟨v0, v1, rfl, h0.frame hf, h1.frame hf⟩
theorem GRewrite.rdmk {A : Nat → Prop} {w : World} {v0 : Value} {x0 : (List Int)} {v1 : Value} {x1 : (List Int)} (h0 : Rd A w v0 x0) (h1 : Rd A w v1 x1) : Rd A w (.agg #[v0, v1]) (⟨x0, x1⟩ : GRewrite) := by
  exact ⟨[_, _], rfl, v0, v1, rfl, h0, h1⟩
theorem GRewrite.open {A : Nat → Prop} {w : World} {v : Value} {t : GRewrite} (h : Rd A w v t) : ∃ v0 v1, v = .agg #[v0, v1] ∧ Rd A w v0 t.From ∧ Rd A w v1 t.To := by
  obtain ⟨cs, e, h⟩ := h
  obtain ⟨v0, v1, rfl, h0, h1⟩ := h
  exact ⟨v0, v1, e, h0, h1⟩
theorem GRewrite.opens (t : GRewrite) : Opens t (fun x : Value × Value => .agg #[x.1, x.2]) (fun x => [.rd x.1 t.From, .rd x.2 t.To]) := by
  intro A B w v h
  obtain ⟨v0, v1, e, h0, h1⟩ := GRewrite.open h
  refine ⟨(v0, v1), e, ?_⟩
  intro f hf
  simp only [List.mem_cons, List.not_mem_nil, or_false] at hf
  rcases hf with rfl | rfl
  · exact ⟨rfl, h0⟩
  · exact ⟨rfl, h1⟩
theorem GRewrite.at_From (t : GRewrite) : Part 0 t t.From := by
  intro A w cs h
  obtain ⟨v0, v1, rfl, h0, h1⟩ := h
  refine ⟨[v0], ?_, h0.cell rfl⟩
  intro j u hj
  match j, hj with
  | 0, hj => simpa using hj
theorem GRewrite.at_To (t : GRewrite) : Part 1 t t.To := by
  intro A w cs h
  obtain ⟨v0, v1, rfl, h0, h1⟩ := h
  refine ⟨[v1], ?_, h1.cell rfl⟩
  intro j u hj
  match j, hj with
  | 0, hj => simpa using hj
theorem GRewrite.zero {A : Nat → Prop} {w : World} : ∃ zc : List Value, (Value.agg #[.slice none 0 0, .slice none 0 0]).cells = zc.toArray ∧ Rep.rdc A w zc (⟨[], []⟩ : GRewrite) := ⟨[.slice none 0 0, .slice none 0 0], rfl, _, _, rfl, rdNil, rdNil⟩

structure Gtiler where
  list : (List GTile)
  bottom : (List Int)
  places : (List Int)
  left : Int
instance : Rep Gtiler where
  sz := 4
  agg := true
  rdc A w cs t := ∃ v0 v1 v2, cs = [v0, v1, v2, .int .i64 t.left] ∧ Rd A w v0 t.list ∧ Rd A w v1 t.bottom ∧ Rd A w v2 t.places
  len := by
    intro A w cs t h
    obtain ⟨v0, v1, v2, rfl, h0, h1, h2⟩ := h
    rfl
  one := by
    intro A w cs t h c hc
    obtain ⟨v0, v1, v2, rfl, h0, h1, h2⟩ := h
    simp only [List.mem_cons, List.not_mem_nil, or_false] at hc
    rcases hc with rfl | rfl | rfl | rfl
    · exact (Rd.sl h0).oneCell
    · exact (Rd.sl h1).oneCell
    · exact (Rd.sl h2).oneCell
    · rfl
  pos := by decide
  single h := by cases h
  frame := by
    intro A A' w w' cs t h hf
    obtain ⟨v0, v1, v2, rfl, h0, h1, h2⟩ := h
    exact ⟨v0, v1, v2, rfl, h0.frame hf, h1.frame hf, h2.frame hf⟩
theorem Gtiler.rdmk {A : Nat → Prop} {w : World} {v0 : Value} {x0 : (List GTile)} {v1 : Value} {x1 : (List Int)} {v2 : Value} {x2 : (List Int)} {v3 : Value} {x3 : Int} (h0 : Rd A w v0 x0) (h1 : Rd A w v1 x1) (h2 : Rd A w v2 x2) (h3 : Rd A w v3 x3) : Rd A w (.agg #[v0, v1, v2, v3]) (⟨x0, x1, x2, x3⟩ : Gtiler) := by
  have e3 := Rd.int h3
  subst e3
  exact ⟨[_, _, _, _], rfl, v0, v1, v2, rfl, h0, h1, h2⟩
theorem Gtiler.open {A : Nat → Prop} {w : World} {v : Value} {t : Gtiler} (h : Rd A w v t) : ∃ v0 v1 v2, v = .agg #[v0, v1, v2, .int .i64 t.left] ∧ Rd A w v0 t.list ∧ Rd A w v1 t.bottom ∧ Rd A w v2 t.places := by
  obtain ⟨cs, e, h⟩ := h
  obtain ⟨v0, v1, v2, rfl, h0, h1, h2⟩ := h
  exact ⟨v0, v1, v2, e, h0, h1, h2⟩
theorem Gtiler.opens (t : Gtiler) : Opens t (fun x : Value × Value × Value => .agg #[x.1, x.2.1, x.2.2, .int .i64 t.left]) (fun x => [.rd x.1 t.list, .rd x.2.1 t.bottom, .rd x.2.2 t.places]) := by
  intro A B w v h
  obtain ⟨v0, v1, v2, e, h0, h1, h2⟩ := Gtiler.open h
  refine ⟨(v0, v1, v2), e, ?_⟩
  intro f hf
  simp only [List.mem_cons, List.not_mem_nil, or_false] at hf
  rcases hf with rfl | rfl | rfl
  · exact ⟨rfl, h0⟩
  · exact ⟨rfl, h1⟩
  · exact ⟨rfl, h2⟩
theorem Gtiler.at_list (t : Gtiler) : Part 0 t t.list := by
  intro A w cs h
  obtain ⟨v0, v1, v2, rfl, h0, h1, h2⟩ := h
  refine ⟨[v0], ?_, h0.cell rfl⟩
  intro j u hj
  match j, hj with
  | 0, hj => simpa using hj
theorem Gtiler.at_bottom (t : Gtiler) : Part 1 t t.bottom := by
  intro A w cs h
  obtain ⟨v0, v1, v2, rfl, h0, h1, h2⟩ := h
  refine ⟨[v1], ?_, h1.cell rfl⟩
  intro j u hj
  match j, hj with
  | 0, hj => simpa using hj
theorem Gtiler.at_places (t : Gtiler) : Part 2 t t.places := by
  intro A w cs h
  obtain ⟨v0, v1, v2, rfl, h0, h1, h2⟩ := h
  refine ⟨[v2], ?_, h2.cell rfl⟩
  intro j u hj
  match j, hj with
  | 0, hj => simpa using hj
theorem Gtiler.at_left (t : Gtiler) : Part 3 t t.left := by
  intro A w cs h
  obtain ⟨v0, v1, v2, rfl, h0, h1, h2⟩ := h
  refine ⟨[.int .i64 t.left], ?_, rfl⟩
  intro j u hj
  match j, hj with
  | 0, hj => simpa using hj
theorem Gtiler.zero {A : Nat → Prop} {w : World} : ∃ zc : List Value, (Value.agg #[.slice none 0 0, .slice none 0 0, .slice none 0 0, .int .i64 0]).cells = zc.toArray ∧ Rep.rdc A w zc (⟨[], [], [], 0⟩ : Gtiler) := ⟨[.slice none 0 0, .slice none 0 0, .slice none 0 0, .int .i64 0], rfl, _, _, _, rfl, rdNil, rdNil, rdNil⟩

structure Gl33Search where
  list : (List GTile)
  bottom : (List Int)
  size : Int
  budget : Int
  all : Bool
  steps : Int
  count : Int
  full : Bool
  tiles : (List Int)
instance : Rep Gl33Search where
  sz := 9
  agg := true
  rdc A w cs t := ∃ v0 v1 v8, cs = [v0, v1, .int .i64 t.size, .int .i64 t.budget, .bool t.all, .int .i64 t.steps, .int .i64 t.count, .bool t.full, v8] ∧ Rd A w v0 t.list ∧ Rd A w v1 t.bottom ∧ Rd A w v8 t.tiles
  len := by
    intro A w cs t h
    obtain ⟨v0, v1, v8, rfl, h0, h1, h8⟩ := h
    rfl
  one := by
    intro A w cs t h c hc
    obtain ⟨v0, v1, v8, rfl, h0, h1, h8⟩ := h
    simp only [List.mem_cons, List.not_mem_nil, or_false] at hc
    rcases hc with rfl | rfl | rfl | rfl | rfl | rfl | rfl | rfl | rfl
    · exact (Rd.sl h0).oneCell
    · exact (Rd.sl h1).oneCell
    · rfl
    · rfl
    · rfl
    · rfl
    · rfl
    · rfl
    · exact (Rd.sl h8).oneCell
  pos := by decide
  single h := by cases h
  frame := by
    intro A A' w w' cs t h hf
    obtain ⟨v0, v1, v8, rfl, h0, h1, h8⟩ := h
    exact ⟨v0, v1, v8, rfl, h0.frame hf, h1.frame hf, h8.frame hf⟩
theorem Gl33Search.rdmk {A : Nat → Prop} {w : World} {v0 : Value} {x0 : (List GTile)} {v1 : Value} {x1 : (List Int)} {v2 : Value} {x2 : Int} {v3 : Value} {x3 : Int} {v4 : Value} {x4 : Bool} {v5 : Value} {x5 : Int} {v6 : Value} {x6 : Int} {v7 : Value} {x7 : Bool} {v8 : Value} {x8 : (List Int)} (h0 : Rd A w v0 x0) (h1 : Rd A w v1 x1) (h2 : Rd A w v2 x2) (h3 : Rd A w v3 x3) (h4 : Rd A w v4 x4) (h5 : Rd A w v5 x5) (h6 : Rd A w v6 x6) (h7 : Rd A w v7 x7) (h8 : Rd A w v8 x8) : Rd A w (.agg #[v0, v1, v2, v3, v4, v5, v6, v7, v8]) (⟨x0, x1, x2, x3, x4, x5, x6, x7, x8⟩ : Gl33Search) := by
  have e2 := Rd.int h2
  subst e2
  have e3 := Rd.int h3
  subst e3
  have e4 := Rd.bool h4
  subst e4
  have e5 := Rd.int h5
  subst e5
  have e6 := Rd.int h6
  subst e6
  have e7 := Rd.bool h7
  subst e7
  exact ⟨[_, _, _, _, _, _, _, _, _], rfl, v0, v1, v8, rfl, h0, h1, h8⟩
theorem Gl33Search.open {A : Nat → Prop} {w : World} {v : Value} {t : Gl33Search} (h : Rd A w v t) : ∃ v0 v1 v8, v = .agg #[v0, v1, .int .i64 t.size, .int .i64 t.budget, .bool t.all, .int .i64 t.steps, .int .i64 t.count, .bool t.full, v8] ∧ Rd A w v0 t.list ∧ Rd A w v1 t.bottom ∧ Rd A w v8 t.tiles := by
  obtain ⟨cs, e, h⟩ := h
  obtain ⟨v0, v1, v8, rfl, h0, h1, h8⟩ := h
  exact ⟨v0, v1, v8, e, h0, h1, h8⟩
theorem Gl33Search.opens (t : Gl33Search) : Opens t (fun x : Value × Value × Value => .agg #[x.1, x.2.1, .int .i64 t.size, .int .i64 t.budget, .bool t.all, .int .i64 t.steps, .int .i64 t.count, .bool t.full, x.2.2]) (fun x => [.rd x.1 t.list, .rd x.2.1 t.bottom, .rd x.2.2 t.tiles]) := by
  intro A B w v h
  obtain ⟨v0, v1, v8, e, h0, h1, h8⟩ := Gl33Search.open h
  refine ⟨(v0, v1, v8), e, ?_⟩
  intro f hf
  simp only [List.mem_cons, List.not_mem_nil, or_false] at hf
  rcases hf with rfl | rfl | rfl
  · exact ⟨rfl, h0⟩
  · exact ⟨rfl, h1⟩
  · exact ⟨rfl, h8⟩
theorem Gl33Search.at_list (t : Gl33Search) : Part 0 t t.list := by
  intro A w cs h
  obtain ⟨v0, v1, v8, rfl, h0, h1, h8⟩ := h
  refine ⟨[v0], ?_, h0.cell rfl⟩
  intro j u hj
  match j, hj with
  | 0, hj => simpa using hj
theorem Gl33Search.at_bottom (t : Gl33Search) : Part 1 t t.bottom := by
  intro A w cs h
  obtain ⟨v0, v1, v8, rfl, h0, h1, h8⟩ := h
  refine ⟨[v1], ?_, h1.cell rfl⟩
  intro j u hj
  match j, hj with
  | 0, hj => simpa using hj
theorem Gl33Search.at_size (t : Gl33Search) : Part 2 t t.size := by
  intro A w cs h
  obtain ⟨v0, v1, v8, rfl, h0, h1, h8⟩ := h
  refine ⟨[.int .i64 t.size], ?_, rfl⟩
  intro j u hj
  match j, hj with
  | 0, hj => simpa using hj
theorem Gl33Search.at_budget (t : Gl33Search) : Part 3 t t.budget := by
  intro A w cs h
  obtain ⟨v0, v1, v8, rfl, h0, h1, h8⟩ := h
  refine ⟨[.int .i64 t.budget], ?_, rfl⟩
  intro j u hj
  match j, hj with
  | 0, hj => simpa using hj
theorem Gl33Search.at_all (t : Gl33Search) : Part 4 t t.all := by
  intro A w cs h
  obtain ⟨v0, v1, v8, rfl, h0, h1, h8⟩ := h
  refine ⟨[.bool t.all], ?_, rfl⟩
  intro j u hj
  match j, hj with
  | 0, hj => simpa using hj
theorem Gl33Search.at_steps (t : Gl33Search) : Part 5 t t.steps := by
  intro A w cs h
  obtain ⟨v0, v1, v8, rfl, h0, h1, h8⟩ := h
  refine ⟨[.int .i64 t.steps], ?_, rfl⟩
  intro j u hj
  match j, hj with
  | 0, hj => simpa using hj
theorem Gl33Search.at_count (t : Gl33Search) : Part 6 t t.count := by
  intro A w cs h
  obtain ⟨v0, v1, v8, rfl, h0, h1, h8⟩ := h
  refine ⟨[.int .i64 t.count], ?_, rfl⟩
  intro j u hj
  match j, hj with
  | 0, hj => simpa using hj
theorem Gl33Search.at_full (t : Gl33Search) : Part 7 t t.full := by
  intro A w cs h
  obtain ⟨v0, v1, v8, rfl, h0, h1, h8⟩ := h
  refine ⟨[.bool t.full], ?_, rfl⟩
  intro j u hj
  match j, hj with
  | 0, hj => simpa using hj
theorem Gl33Search.at_tiles (t : Gl33Search) : Part 8 t t.tiles := by
  intro A w cs h
  obtain ⟨v0, v1, v8, rfl, h0, h1, h8⟩ := h
  refine ⟨[v8], ?_, h8.cell rfl⟩
  intro j u hj
  match j, hj with
  | 0, hj => simpa using hj
theorem Gl33Search.zero {A : Nat → Prop} {w : World} : ∃ zc : List Value, (Value.agg #[.slice none 0 0, .slice none 0 0, .int .i64 0, .int .i64 0, .bool false, .int .i64 0, .int .i64 0, .bool false, .slice none 0 0]).cells = zc.toArray ∧ Rep.rdc A w zc (⟨[], [], 0, 0, false, 0, 0, false, []⟩ : Gl33Search) := ⟨[.slice none 0 0, .slice none 0 0, .int .i64 0, .int .i64 0, .bool false, .int .i64 0, .int .i64 0, .bool false, .slice none 0 0], rfl, _, _, _, rfl, rdNil, rdNil, rdNil⟩

end Go.Fn
