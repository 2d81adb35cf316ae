/-
  The structures of the program, as plain Lean data, and how they are laid in memory. No condition.
-/
import Derived.Test.YtcgaddlkebifdaaPure
namespace Go.Fn
open Go Go.Tc

structure GRule where
  Write : Int
  Move : Int
  Next : Int
instance : DecidableEq GRule := fun a b =>
  if h : a.Write = b.Write ∧ a.Move = b.Move ∧ a.Next = b.Next then isTrue (by cases a; cases b; simp_all) else isFalse (by rintro rfl; simp at h)
instance : Rep GRule where
  sz := 3
  agg := true
  rdc A w cs t := cs = [.int .i64 t.Write, .int .i64 t.Move, .int .i64 t.Next]
  len := by
    intro A w cs t h
    obtain rfl := h
    rfl
  one := by
    intro A w cs t h c hc
    obtain rfl := h
    simp only [List.mem_cons, List.not_mem_nil, or_false] at hc
    rcases hc with rfl | rfl | rfl
    · rfl
    · rfl
    · rfl
  pos := by decide
  single h := by cases h
  frame := by
    intro A A' w w' cs t h hf
    obtain rfl := h
    exact rfl
  dc _ cs t B := cs = [.int .i64 t.Write, .int .i64 t.Move, .int .i64 t.Next] ∧ B = []
  dcf h _ := h
  dcr h _ := h.1
  dlt h b hb := by simp [h.2] at hb
  flat := true
  flt _ h := ⟨h, rfl⟩
theorem GRule.rdmk {A : Nat → Prop} {w : World} {v0 : Value} {x0 : Int} {v1 : Value} {x1 : Int} {v2 : Value} {x2 : Int} (h0 : Rd A w v0 x0) (h1 : Rd A w v1 x1) (h2 : Rd A w v2 x2) : Rd A w (.agg #[v0, v1, v2]) (⟨x0, x1, x2⟩ : GRule) := by
  have e0 := Rd.int h0
  subst e0
  have e1 := Rd.int h1
  subst e1
  have e2 := Rd.int h2
  subst e2
  exact ⟨[_, _, _], rfl, rfl⟩
theorem GRule.open {A : Nat → Prop} {w : World} {v : Value} {t : GRule} (h : Rd A w v t) : v = .agg #[.int .i64 t.Write, .int .i64 t.Move, .int .i64 t.Next] := by
  obtain ⟨cs, e, h⟩ := h
  subst h
  exact e
theorem GRule.opens (t : GRule) : Opens t (fun _ : Unit => .agg #[.int .i64 t.Write, .int .i64 t.Move, .int .i64 t.Next]) (fun _ => []) := by
  intro A B w v h
  exact ⟨(), GRule.open h, by simp⟩
def GRule.enc (t : GRule) : Value := .agg #[.int .i64 t.Write, .int .i64 t.Move, .int .i64 t.Next]
theorem GRule.nb {x : GRule} : Nb x := nb_flat rfl x
theorem GRule.dw {w : World} {x0 : Int} {x1 : Int} {x2 : Int} {C : List Nat} : Dw w (.agg #[.int .i64 x0, .int .i64 x1, .int .i64 x2]) (⟨x0, x1, x2⟩ : GRule) C C := fun _ => ⟨[], ⟨[.int .i64 x0, .int .i64 x1, .int .i64 x2], rfl, rfl, rfl⟩, by simp, by simp, List.Sublist.refl _⟩
theorem GRule.zero {A : Nat → Prop} {w : World} : ∃ zc : List Value, (Value.agg #[.int .i64 0, .int .i64 0, .int .i64 0]).cells = zc.toArray ∧ Rep.rdc A w zc (⟨0, 0, 0⟩ : GRule) := ⟨[.int .i64 0, .int .i64 0, .int .i64 0], rfl, rfl⟩

structure GMachine where
  Symbols : Int
  States : Int
  Rules : (List GRule)
instance : Rep GMachine where
  sz := 3
  agg := true
  rdc A w cs t := ∃ v2, cs = [.int .i64 t.Symbols, .int .i64 t.States, v2] ∧ Rd A w v2 t.Rules
  len := by
    intro A w cs t h
    obtain ⟨v2, rfl, h2⟩ := h
    rfl
  one := by
    intro A w cs t h c hc
    obtain ⟨v2, rfl, h2⟩ := h
    simp only [List.mem_cons, List.not_mem_nil, or_false] at hc
    rcases hc with rfl | rfl | rfl
    · rfl
    · rfl
    · exact (Rd.sl h2).oneCell
  pos := by decide
  single h := by cases h
  frame := by
    intro A A' w w' cs t h hf
    obtain ⟨v2, rfl, h2⟩ := h
    exact ⟨v2, rfl, h2.frame hf⟩
  dc w cs t B := ∃ v2 B2, cs = [.int .i64 t.Symbols, .int .i64 t.States, v2] ∧ B = B2 ∧ Dc w v2 t.Rules B2
  dcf := by
    intro w w' cs t B h hf
    obtain ⟨v2, B2, rfl, rfl, h2⟩ := h
    exact ⟨v2, _, rfl, rfl, h2.frame (fun b hb => hf b (by simp [hb]))⟩
  dcr := by
    intro A w cs t B h hA
    obtain ⟨v2, B2, rfl, rfl, h2⟩ := h
    exact ⟨v2, rfl, h2.rd (fun b hb => hA b (by simp [hb]))⟩
  dlt := by
    intro w cs t B h b hb
    obtain ⟨v2, B2, rfl, rfl, h2⟩ := h
    exact h2.lt b hb
  flat := false
  flt h := by cases h
theorem GMachine.rdmk {A : Nat → Prop} {w : World} {v0 : Value} {x0 : Int} {v1 : Value} {x1 : Int} {v2 : Value} {x2 : (List GRule)} (h0 : Rd A w v0 x0) (h1 : Rd A w v1 x1) (h2 : Rd A w v2 x2) : Rd A w (.agg #[v0, v1, v2]) (⟨x0, x1, x2⟩ : GMachine) := by
  have e0 := Rd.int h0
  subst e0
  have e1 := Rd.int h1
  subst e1
  exact ⟨[_, _, _], rfl, v2, rfl, h2⟩
theorem GMachine.open {A : Nat → Prop} {w : World} {v : Value} {t : GMachine} (h : Rd A w v t) : ∃ v2, v = .agg #[.int .i64 t.Symbols, .int .i64 t.States, v2] ∧ Rd A w v2 t.Rules := by
  obtain ⟨cs, e, h⟩ := h
  obtain ⟨v2, rfl, h2⟩ := h
  exact ⟨v2, e, h2⟩
theorem GMachine.opens (t : GMachine) : Opens t (fun x : Value => .agg #[.int .i64 t.Symbols, .int .i64 t.States, x]) (fun x => [.rd x t.Rules]) := by
  intro A B w v h
  obtain ⟨v2, e, h2⟩ := GMachine.open h
  refine ⟨v2, e, ?_⟩
  intro f hf
  simp only [List.mem_cons, List.not_mem_nil, or_false] at hf
  rcases hf with rfl
  · exact ⟨⟨rfl, rfl⟩, h2⟩
theorem GMachine.at_Symbols (t : GMachine) : Part 0 t t.Symbols := by
  intro A w cs h
  obtain ⟨v2, rfl, h2⟩ := h
  refine ⟨[.int .i64 t.Symbols], ?_, rfl⟩
  intro j u hj
  match j, hj with
  | 0, hj => simpa using hj
theorem GMachine.at_States (t : GMachine) : Part 1 t t.States := by
  intro A w cs h
  obtain ⟨v2, rfl, h2⟩ := h
  refine ⟨[.int .i64 t.States], ?_, rfl⟩
  intro j u hj
  match j, hj with
  | 0, hj => simpa using hj
theorem GMachine.at_Rules (t : GMachine) : Part 2 t t.Rules := by
  intro A w cs h
  obtain ⟨v2, rfl, h2⟩ := h
  refine ⟨[v2], ?_, h2.cell rfl⟩
  intro j u hj
  match j, hj with
  | 0, hj => simpa using hj
theorem GMachine.nb {x0 : Int} {x1 : Int} {x2 : (List GRule)} (h2 : Nb x2) : Nb (⟨x0, x1, x2⟩ : GMachine) := by
  intro A w cs h
  obtain ⟨v2, rfl, r2⟩ := h
  obtain ⟨c2, e2, q2⟩ := r2
  exact ⟨v2, [], rfl, rfl, ⟨c2, e2, h2 _ _ _ q2⟩⟩
theorem GMachine.dw {w : World} {x0 : Int} {x1 : Int} {x2 : (List GRule)} {v2 : Value} {C0 C1 : List Nat} (h2 : Dw w v2 x2 C0 C1) : Dw w (.agg #[.int .i64 x0, .int .i64 x1, v2]) (⟨x0, x1, x2⟩ : GMachine) C0 C1 := by
  intro hn
  obtain ⟨B, a0, nd, mem, sub⟩ := h2 hn
  exact ⟨_, ⟨[.int .i64 x0, .int .i64 x1, v2], rfl, v2, B, rfl, rfl, a0⟩, nd, mem, sub⟩
theorem GMachine.zero {A : Nat → Prop} {w : World} : ∃ zc : List Value, (Value.agg #[.int .i64 0, .int .i64 0, .slice none 0 0]).cells = zc.toArray ∧ Rep.rdc A w zc (⟨0, 0, []⟩ : GMachine) := ⟨[.int .i64 0, .int .i64 0, .slice none 0 0], rfl, _, rfl, rdNil⟩

structure GMeasure where
  Steps : Int
  Halts : Bool
  Space : Int
  Least : Int
  Greatest : Int
  Changes : Int
  Turns : Int
  Marks : Int
instance : DecidableEq GMeasure := fun a b =>
  if h : a.Steps = b.Steps ∧ a.Halts = b.Halts ∧ a.Space = b.Space ∧ a.Least = b.Least ∧ a.Greatest = b.Greatest ∧ a.Changes = b.Changes ∧ a.Turns = b.Turns ∧ a.Marks = b.Marks then isTrue (by cases a; cases b; simp_all) else isFalse (by rintro rfl; simp at h)
instance : Rep GMeasure where
  sz := 8
  agg := true
  rdc A w cs t := cs = [.int .i64 t.Steps, .bool t.Halts, .int .i64 t.Space, .int .i64 t.Least, .int .i64 t.Greatest, .int .i64 t.Changes, .int .i64 t.Turns, .int .i64 t.Marks]
  len := by
    intro A w cs t h
    obtain rfl := h
    rfl
  one := by
    intro A w cs t h c hc
    obtain rfl := h
    simp only [List.mem_cons, List.not_mem_nil, or_false] at hc
    rcases hc with rfl | rfl | rfl | rfl | rfl | rfl | rfl | rfl
    · rfl
    · rfl
    · rfl
    · rfl
    · rfl
    · rfl
    · rfl
    · rfl
  pos := by decide
  single h := by cases h
  frame := by
    intro A A' w w' cs t h hf
    obtain rfl := h
    exact rfl
  dc _ cs t B := cs = [.int .i64 t.Steps, .bool t.Halts, .int .i64 t.Space, .int .i64 t.Least, .int .i64 t.Greatest, .int .i64 t.Changes, .int .i64 t.Turns, .int .i64 t.Marks] ∧ B = []
  dcf h _ := h
  dcr h _ := h.1
  dlt h b hb := by simp [h.2] at hb
  flat := true
  flt _ h := ⟨h, rfl⟩
theorem GMeasure.rdmk {A : Nat → Prop} {w : World} {v0 : Value} {x0 : Int} {v1 : Value} {x1 : Bool} {v2 : Value} {x2 : Int} {v3 : Value} {x3 : Int} {v4 : Value} {x4 : Int} {v5 : Value} {x5 : Int} {v6 : Value} {x6 : Int} {v7 : Value} {x7 : Int} (h0 : Rd A w v0 x0) (h1 : Rd A w v1 x1) (h2 : Rd A w v2 x2) (h3 : Rd A w v3 x3) (h4 : Rd A w v4 x4) (h5 : Rd A w v5 x5) (h6 : Rd A w v6 x6) (h7 : Rd A w v7 x7) : Rd A w (.agg #[v0, v1, v2, v3, v4, v5, v6, v7]) (⟨x0, x1, x2, x3, x4, x5, x6, x7⟩ : GMeasure) := by
  have e0 := Rd.int h0
  subst e0
  have e1 := Rd.bool h1
  subst e1
  have e2 := Rd.int h2
  subst e2
  have e3 := Rd.int h3
  subst e3
  have e4 := Rd.int h4
  subst e4
  have e5 := Rd.int h5
  subst e5
  have e6 := Rd.int h6
  subst e6
  have e7 := Rd.int h7
  subst e7
  exact ⟨[_, _, _, _, _, _, _, _], rfl, rfl⟩
theorem GMeasure.open {A : Nat → Prop} {w : World} {v : Value} {t : GMeasure} (h : Rd A w v t) : v = .agg #[.int .i64 t.Steps, .bool t.Halts, .int .i64 t.Space, .int .i64 t.Least, .int .i64 t.Greatest, .int .i64 t.Changes, .int .i64 t.Turns, .int .i64 t.Marks] := by
  obtain ⟨cs, e, h⟩ := h
  subst h
  exact e
theorem GMeasure.opens (t : GMeasure) : Opens t (fun _ : Unit => .agg #[.int .i64 t.Steps, .bool t.Halts, .int .i64 t.Space, .int .i64 t.Least, .int .i64 t.Greatest, .int .i64 t.Changes, .int .i64 t.Turns, .int .i64 t.Marks]) (fun _ => []) := by
  intro A B w v h
  exact ⟨(), GMeasure.open h, by simp⟩
def GMeasure.enc (t : GMeasure) : Value := .agg #[.int .i64 t.Steps, .bool t.Halts, .int .i64 t.Space, .int .i64 t.Least, .int .i64 t.Greatest, .int .i64 t.Changes, .int .i64 t.Turns, .int .i64 t.Marks]
theorem GMeasure.nb {x : GMeasure} : Nb x := nb_flat rfl x
theorem GMeasure.dw {w : World} {x0 : Int} {x1 : Bool} {x2 : Int} {x3 : Int} {x4 : Int} {x5 : Int} {x6 : Int} {x7 : Int} {C : List Nat} : Dw w (.agg #[.int .i64 x0, .bool x1, .int .i64 x2, .int .i64 x3, .int .i64 x4, .int .i64 x5, .int .i64 x6, .int .i64 x7]) (⟨x0, x1, x2, x3, x4, x5, x6, x7⟩ : GMeasure) C C := fun _ => ⟨[], ⟨[.int .i64 x0, .bool x1, .int .i64 x2, .int .i64 x3, .int .i64 x4, .int .i64 x5, .int .i64 x6, .int .i64 x7], rfl, rfl, rfl⟩, by simp, by simp, List.Sublist.refl _⟩
theorem GMeasure.zero {A : Nat → Prop} {w : World} : ∃ zc : List Value, (Value.agg #[.int .i64 0, .bool false, .int .i64 0, .int .i64 0, .int .i64 0, .int .i64 0, .int .i64 0, .int .i64 0]).cells = zc.toArray ∧ Rep.rdc A w zc (⟨0, false, 0, 0, 0, 0, 0, 0⟩ : GMeasure) := ⟨[.int .i64 0, .bool false, .int .i64 0, .int .i64 0, .int .i64 0, .int .i64 0, .int .i64 0, .int .i64 0], rfl, rfl⟩

structure GConfig where
  State : Int
  Left : (List Int)
  Right : (List Int)
instance : DecidableEq GConfig := fun a b =>
  if h : a.State = b.State ∧ a.Left = b.Left ∧ a.Right = b.Right then isTrue (by cases a; cases b; simp_all) else isFalse (by rintro rfl; simp at h)
instance : Rep GConfig where
  sz := 3
  agg := true
  rdc A w cs t := ∃ v1 v2, cs = [.int .i64 t.State, v1, v2] ∧ Rd A w v1 t.Left ∧ Rd A w v2 t.Right
  len := by
    intro A w cs t h
    obtain ⟨v1, v2, rfl, h1, h2⟩ := h
    rfl
  one := by
    intro A w cs t h c hc
    obtain ⟨v1, v2, rfl, h1, h2⟩ := h
    simp only [List.mem_cons, List.not_mem_nil, or_false] at hc
    rcases hc with rfl | rfl | rfl
    · rfl
    · exact (Rd.sl h1).oneCell
    · exact (Rd.sl h2).oneCell
  pos := by decide
  single h := by cases h
  frame := by
    intro A A' w w' cs t h hf
    obtain ⟨v1, v2, rfl, h1, h2⟩ := h
    exact ⟨v1, v2, rfl, h1.frame hf, h2.frame hf⟩
  dc w cs t B := ∃ v1 v2 B1 B2, cs = [.int .i64 t.State, v1, v2] ∧ B = B1 ++ B2 ∧ Dc w v1 t.Left B1 ∧ Dc w v2 t.Right B2
  dcf := by
    intro w w' cs t B h hf
    obtain ⟨v1, v2, B1, B2, rfl, rfl, h1, h2⟩ := h
    exact ⟨v1, v2, _, _, rfl, rfl, h1.frame (fun b hb => hf b (by simp [hb])), h2.frame (fun b hb => hf b (by simp [hb]))⟩
  dcr := by
    intro A w cs t B h hA
    obtain ⟨v1, v2, B1, B2, rfl, rfl, h1, h2⟩ := h
    exact ⟨v1, v2, rfl, h1.rd (fun b hb => hA b (by simp [hb])), h2.rd (fun b hb => hA b (by simp [hb]))⟩
  dlt := by
    intro w cs t B h b hb
    obtain ⟨v1, v2, B1, B2, rfl, rfl, h1, h2⟩ := h
    simp only [List.append_assoc, List.mem_append] at hb
    rcases hb with hb | hb
    · exact h1.lt b hb
    · exact h2.lt b hb
  flat := false
  flt h := by cases h
theorem GConfig.rdmk {A : Nat → Prop} {w : World} {v0 : Value} {x0 : Int} {v1 : Value} {x1 : (List Int)} {v2 : Value} {x2 : (List Int)} (h0 : Rd A w v0 x0) (h1 : Rd A w v1 x1) (h2 : Rd A w v2 x2) : Rd A w (.agg #[v0, v1, v2]) (⟨x0, x1, x2⟩ : GConfig) := by
  have e0 := Rd.int h0
  subst e0
  exact ⟨[_, _, _], rfl, v1, v2, rfl, h1, h2⟩
theorem GConfig.open {A : Nat → Prop} {w : World} {v : Value} {t : GConfig} (h : Rd A w v t) : ∃ v1 v2, v = .agg #[.int .i64 t.State, v1, v2] ∧ Rd A w v1 t.Left ∧ Rd A w v2 t.Right := by
  obtain ⟨cs, e, h⟩ := h
  obtain ⟨v1, v2, rfl, h1, h2⟩ := h
  exact ⟨v1, v2, e, h1, h2⟩
theorem GConfig.opens (t : GConfig) : Opens t (fun x : Value × Value => .agg #[.int .i64 t.State, x.1, x.2]) (fun x => [.rd x.1 t.Left, .rd x.2 t.Right]) := by
  intro A B w v h
  obtain ⟨v1, v2, e, h1, h2⟩ := GConfig.open h
  refine ⟨(v1, v2), e, ?_⟩
  intro f hf
  simp only [List.mem_cons, List.not_mem_nil, or_false] at hf
  rcases hf with rfl | rfl
  · exact ⟨⟨rfl, rfl⟩, h1⟩
  · exact ⟨⟨rfl, rfl⟩, h2⟩
theorem GConfig.nb {x0 : Int} {x1 : (List Int)} {x2 : (List Int)} (h1 : Nb x1) (h2 : Nb x2) : Nb (⟨x0, x1, x2⟩ : GConfig) := by
  intro A w cs h
  obtain ⟨v1, v2, rfl, r1, r2⟩ := h
  obtain ⟨c1, e1, q1⟩ := r1
  obtain ⟨c2, e2, q2⟩ := r2
  exact ⟨v1, v2, [], [], rfl, rfl, ⟨c1, e1, h1 _ _ _ q1⟩, ⟨c2, e2, h2 _ _ _ q2⟩⟩
theorem GConfig.dw {w : World} {x0 : Int} {x1 : (List Int)} {x2 : (List Int)} {v1 : Value} {v2 : Value} {C0 C1 C2 : List Nat} (h1 : Dw w v1 x1 C0 C1) (h2 : Dw w v2 x2 C1 C2) : Dw w (.agg #[.int .i64 x0, v1, v2]) (⟨x0, x1, x2⟩ : GConfig) C0 C2 := by
  intro hn
  obtain ⟨B1, B2, a0, a1, nd, mem, sub⟩ := h1.two h2 hn
  exact ⟨_, ⟨[.int .i64 x0, v1, v2], rfl, v1, v2, B1, B2, rfl, rfl, a0, a1⟩, nd, mem, sub⟩
theorem GConfig.zero {A : Nat → Prop} {w : World} : ∃ zc : List Value, (Value.agg #[.int .i64 0, .slice none 0 0, .slice none 0 0]).cells = zc.toArray ∧ Rep.rdc A w zc (⟨0, [], []⟩ : GConfig) := ⟨[.int .i64 0, .slice none 0 0, .slice none 0 0], rfl, _, _, rfl, rdNil, rdNil⟩

structure Gmeasurer where
  measure_Steps : Int
  measure_Halts : Bool
  measure_Space : Int
  measure_Least : Int
  measure_Greatest : Int
  measure_Changes : Int
  measure_Turns : Int
  measure_Marks : Int
  last : Int
instance : DecidableEq Gmeasurer := fun a b =>
  if h : a.measure_Steps = b.measure_Steps ∧ a.measure_Halts = b.measure_Halts ∧ a.measure_Space = b.measure_Space ∧ a.measure_Least = b.measure_Least ∧ a.measure_Greatest = b.measure_Greatest ∧ a.measure_Changes = b.measure_Changes ∧ a.measure_Turns = b.measure_Turns ∧ a.measure_Marks = b.measure_Marks ∧ a.last = b.last then isTrue (by cases a; cases b; simp_all) else isFalse (by rintro rfl; simp at h)
instance : Rep Gmeasurer where
  sz := 9
  agg := true
  rdc A w cs t := cs = [.int .i64 t.measure_Steps, .bool t.measure_Halts, .int .i64 t.measure_Space, .int .i64 t.measure_Least, .int .i64 t.measure_Greatest, .int .i64 t.measure_Changes, .int .i64 t.measure_Turns, .int .i64 t.measure_Marks, .int .i64 t.last]
  len := by
    intro A w cs t h
    obtain rfl := h
    rfl
  one := by
    intro A w cs t h c hc
    obtain rfl := h
    simp only [List.mem_cons, List.not_mem_nil, or_false] at hc
    rcases hc with rfl | rfl | rfl | rfl | rfl | rfl | rfl | rfl | rfl
    · rfl
    · rfl
    · rfl
    · rfl
    · rfl
    · rfl
    · rfl
    · rfl
    · rfl
  pos := by decide
  single h := by cases h
  frame := by
    intro A A' w w' cs t h hf
    obtain rfl := h
    exact rfl
  dc _ cs t B := cs = [.int .i64 t.measure_Steps, .bool t.measure_Halts, .int .i64 t.measure_Space, .int .i64 t.measure_Least, .int .i64 t.measure_Greatest, .int .i64 t.measure_Changes, .int .i64 t.measure_Turns, .int .i64 t.measure_Marks, .int .i64 t.last] ∧ B = []
  dcf h _ := h
  dcr h _ := h.1
  dlt h b hb := by simp [h.2] at hb
  flat := true
  flt _ h := ⟨h, rfl⟩
theorem Gmeasurer.rdmk {A : Nat → Prop} {w : World} {v0 : Value} {x0 : Int} {v1 : Value} {x1 : Bool} {v2 : Value} {x2 : Int} {v3 : Value} {x3 : Int} {v4 : Value} {x4 : Int} {v5 : Value} {x5 : Int} {v6 : Value} {x6 : Int} {v7 : Value} {x7 : Int} {v8 : Value} {x8 : Int} (h0 : Rd A w v0 x0) (h1 : Rd A w v1 x1) (h2 : Rd A w v2 x2) (h3 : Rd A w v3 x3) (h4 : Rd A w v4 x4) (h5 : Rd A w v5 x5) (h6 : Rd A w v6 x6) (h7 : Rd A w v7 x7) (h8 : Rd A w v8 x8) : Rd A w (.agg #[v0, v1, v2, v3, v4, v5, v6, v7, v8]) (⟨x0, x1, x2, x3, x4, x5, x6, x7, x8⟩ : Gmeasurer) := by
  have e0 := Rd.int h0
  subst e0
  have e1 := Rd.bool h1
  subst e1
  have e2 := Rd.int h2
  subst e2
  have e3 := Rd.int h3
  subst e3
  have e4 := Rd.int h4
  subst e4
  have e5 := Rd.int h5
  subst e5
  have e6 := Rd.int h6
  subst e6
  have e7 := Rd.int h7
  subst e7
  have e8 := Rd.int h8
  subst e8
  exact ⟨[_, _, _, _, _, _, _, _, _], rfl, rfl⟩
theorem Gmeasurer.open {A : Nat → Prop} {w : World} {v : Value} {t : Gmeasurer} (h : Rd A w v t) : v = .agg #[.int .i64 t.measure_Steps, .bool t.measure_Halts, .int .i64 t.measure_Space, .int .i64 t.measure_Least, .int .i64 t.measure_Greatest, .int .i64 t.measure_Changes, .int .i64 t.measure_Turns, .int .i64 t.measure_Marks, .int .i64 t.last] := by
  obtain ⟨cs, e, h⟩ := h
  subst h
  exact e
theorem Gmeasurer.opens (t : Gmeasurer) : Opens t (fun _ : Unit => .agg #[.int .i64 t.measure_Steps, .bool t.measure_Halts, .int .i64 t.measure_Space, .int .i64 t.measure_Least, .int .i64 t.measure_Greatest, .int .i64 t.measure_Changes, .int .i64 t.measure_Turns, .int .i64 t.measure_Marks, .int .i64 t.last]) (fun _ => []) := by
  intro A B w v h
  exact ⟨(), Gmeasurer.open h, by simp⟩
def Gmeasurer.enc (t : Gmeasurer) : Value := .agg #[.int .i64 t.measure_Steps, .bool t.measure_Halts, .int .i64 t.measure_Space, .int .i64 t.measure_Least, .int .i64 t.measure_Greatest, .int .i64 t.measure_Changes, .int .i64 t.measure_Turns, .int .i64 t.measure_Marks, .int .i64 t.last]
theorem Gmeasurer.nb {x : Gmeasurer} : Nb x := nb_flat rfl x
theorem Gmeasurer.dw {w : World} {x0 : Int} {x1 : Bool} {x2 : Int} {x3 : Int} {x4 : Int} {x5 : Int} {x6 : Int} {x7 : Int} {x8 : Int} {C : List Nat} : Dw w (.agg #[.int .i64 x0, .bool x1, .int .i64 x2, .int .i64 x3, .int .i64 x4, .int .i64 x5, .int .i64 x6, .int .i64 x7, .int .i64 x8]) (⟨x0, x1, x2, x3, x4, x5, x6, x7, x8⟩ : Gmeasurer) C C := fun _ => ⟨[], ⟨[.int .i64 x0, .bool x1, .int .i64 x2, .int .i64 x3, .int .i64 x4, .int .i64 x5, .int .i64 x6, .int .i64 x7, .int .i64 x8], rfl, rfl, rfl⟩, by simp, by simp, List.Sublist.refl _⟩
theorem Gmeasurer.zero {A : Nat → Prop} {w : World} : ∃ zc : List Value, (Value.agg #[.int .i64 0, .bool false, .int .i64 0, .int .i64 0, .int .i64 0, .int .i64 0, .int .i64 0, .int .i64 0, .int .i64 0]).cells = zc.toArray ∧ Rep.rdc A w zc (⟨0, false, 0, 0, 0, 0, 0, 0, 0⟩ : Gmeasurer) := ⟨[.int .i64 0, .bool false, .int .i64 0, .int .i64 0, .int .i64 0, .int .i64 0, .int .i64 0, .int .i64 0, .int .i64 0], rfl, rfl⟩

structure Grecord where
  steps : Int
  side : Int
  Config_State : Int
  Config_Left : (List Int)
  Config_Right : (List Int)
instance : DecidableEq Grecord := fun a b =>
  if h : a.steps = b.steps ∧ a.side = b.side ∧ a.Config_State = b.Config_State ∧ a.Config_Left = b.Config_Left ∧ a.Config_Right = b.Config_Right then isTrue (by cases a; cases b; simp_all) else isFalse (by rintro rfl; simp at h)
instance : Rep Grecord where
  sz := 5
  agg := true
  rdc A w cs t := ∃ v3 v4, cs = [.int .i64 t.steps, .int .i64 t.side, .int .i64 t.Config_State, v3, v4] ∧ Rd A w v3 t.Config_Left ∧ Rd A w v4 t.Config_Right
  len := by
    intro A w cs t h
    obtain ⟨v3, v4, rfl, h3, h4⟩ := h
    rfl
  one := by
    intro A w cs t h c hc
    obtain ⟨v3, v4, rfl, h3, h4⟩ := h
    simp only [List.mem_cons, List.not_mem_nil, or_false] at hc
    rcases hc with rfl | rfl | rfl | rfl | rfl
    · rfl
    · rfl
    · rfl
    · exact (Rd.sl h3).oneCell
    · exact (Rd.sl h4).oneCell
  pos := by decide
  single h := by cases h
  frame := by
    intro A A' w w' cs t h hf
    obtain ⟨v3, v4, rfl, h3, h4⟩ := h
    exact ⟨v3, v4, rfl, h3.frame hf, h4.frame hf⟩
  dc w cs t B := ∃ v3 v4 B3 B4, cs = [.int .i64 t.steps, .int .i64 t.side, .int .i64 t.Config_State, v3, v4] ∧ B = B3 ++ B4 ∧ Dc w v3 t.Config_Left B3 ∧ Dc w v4 t.Config_Right B4
  dcf := by
    intro w w' cs t B h hf
    obtain ⟨v3, v4, B3, B4, rfl, rfl, h3, h4⟩ := h
    exact ⟨v3, v4, _, _, rfl, rfl, h3.frame (fun b hb => hf b (by simp [hb])), h4.frame (fun b hb => hf b (by simp [hb]))⟩
  dcr := by
    intro A w cs t B h hA
    obtain ⟨v3, v4, B3, B4, rfl, rfl, h3, h4⟩ := h
    exact ⟨v3, v4, rfl, h3.rd (fun b hb => hA b (by simp [hb])), h4.rd (fun b hb => hA b (by simp [hb]))⟩
  dlt := by
    intro w cs t B h b hb
    obtain ⟨v3, v4, B3, B4, rfl, rfl, h3, h4⟩ := h
    simp only [List.append_assoc, List.mem_append] at hb
    rcases hb with hb | hb
    · exact h3.lt b hb
    · exact h4.lt b hb
  flat := false
  flt h := by cases h
theorem Grecord.rdmk {A : Nat → Prop} {w : World} {v0 : Value} {x0 : Int} {v1 : Value} {x1 : Int} {v2 : Value} {x2 : Int} {v3 : Value} {x3 : (List Int)} {v4 : Value} {x4 : (List Int)} (h0 : Rd A w v0 x0) (h1 : Rd A w v1 x1) (h2 : Rd A w v2 x2) (h3 : Rd A w v3 x3) (h4 : Rd A w v4 x4) : Rd A w (.agg #[v0, v1, v2, v3, v4]) (⟨x0, x1, x2, x3, x4⟩ : Grecord) := by
  have e0 := Rd.int h0
  subst e0
  have e1 := Rd.int h1
  subst e1
  have e2 := Rd.int h2
  subst e2
  exact ⟨[_, _, _, _, _], rfl, v3, v4, rfl, h3, h4⟩
theorem Grecord.open {A : Nat → Prop} {w : World} {v : Value} {t : Grecord} (h : Rd A w v t) : ∃ v3 v4, v = .agg #[.int .i64 t.steps, .int .i64 t.side, .int .i64 t.Config_State, v3, v4] ∧ Rd A w v3 t.Config_Left ∧ Rd A w v4 t.Config_Right := by
  obtain ⟨cs, e, h⟩ := h
  obtain ⟨v3, v4, rfl, h3, h4⟩ := h
  exact ⟨v3, v4, e, h3, h4⟩
theorem Grecord.opens (t : Grecord) : Opens t (fun x : Value × Value => .agg #[.int .i64 t.steps, .int .i64 t.side, .int .i64 t.Config_State, x.1, x.2]) (fun x => [.rd x.1 t.Config_Left, .rd x.2 t.Config_Right]) := by
  intro A B w v h
  obtain ⟨v3, v4, e, h3, h4⟩ := Grecord.open h
  refine ⟨(v3, v4), e, ?_⟩
  intro f hf
  simp only [List.mem_cons, List.not_mem_nil, or_false] at hf
  rcases hf with rfl | rfl
  · exact ⟨⟨rfl, rfl⟩, h3⟩
  · exact ⟨⟨rfl, rfl⟩, h4⟩
theorem Grecord.nb {x0 : Int} {x1 : Int} {x2 : Int} {x3 : (List Int)} {x4 : (List Int)} (h3 : Nb x3) (h4 : Nb x4) : Nb (⟨x0, x1, x2, x3, x4⟩ : Grecord) := by
  intro A w cs h
  obtain ⟨v3, v4, rfl, r3, r4⟩ := h
  obtain ⟨c3, e3, q3⟩ := r3
  obtain ⟨c4, e4, q4⟩ := r4
  exact ⟨v3, v4, [], [], rfl, rfl, ⟨c3, e3, h3 _ _ _ q3⟩, ⟨c4, e4, h4 _ _ _ q4⟩⟩
theorem Grecord.dw {w : World} {x0 : Int} {x1 : Int} {x2 : Int} {x3 : (List Int)} {x4 : (List Int)} {v3 : Value} {v4 : Value} {C0 C1 C2 : List Nat} (h3 : Dw w v3 x3 C0 C1) (h4 : Dw w v4 x4 C1 C2) : Dw w (.agg #[.int .i64 x0, .int .i64 x1, .int .i64 x2, v3, v4]) (⟨x0, x1, x2, x3, x4⟩ : Grecord) C0 C2 := by
  intro hn
  obtain ⟨B1, B2, a0, a1, nd, mem, sub⟩ := h3.two h4 hn
  exact ⟨_, ⟨[.int .i64 x0, .int .i64 x1, .int .i64 x2, v3, v4], rfl, v3, v4, B1, B2, rfl, rfl, a0, a1⟩, nd, mem, sub⟩
theorem Grecord.zero {A : Nat → Prop} {w : World} : ∃ zc : List Value, (Value.agg #[.int .i64 0, .int .i64 0, .int .i64 0, .slice none 0 0, .slice none 0 0]).cells = zc.toArray ∧ Rep.rdc A w zc (⟨0, 0, 0, [], []⟩ : Grecord) := ⟨[.int .i64 0, .int .i64 0, .int .i64 0, .slice none 0 0, .slice none 0 0], rfl, _, _, rfl, rdNil, rdNil⟩

structure Gtracker where
  positions : (List Int)
  records : (List Grecord)
instance : Rep Gtracker where
  sz := 2
  agg := true
  rdc A w cs t := ∃ v0 v1, cs = [v0, v1] ∧ Rd A w v0 t.positions ∧ Rd A w v1 t.records
  len := by
    intro A w cs t h
    obtain ⟨v0, v1, rfl, h0, h1⟩ := h
    rfl
  one := by
    intro A w cs t h c hc
    obtain ⟨v0, v1, rfl, h0, h1⟩ := h
    simp only [List.mem_cons, List.not_mem_nil, or_false] at hc
    rcases hc with rfl | rfl
    · exact (Rd.sl h0).oneCell
    · exact (Rd.sl h1).oneCell
  pos := by decide
  single h := by cases h
  frame := by
    intro A A' w w' cs t h hf
    obtain ⟨v0, v1, rfl, h0, h1⟩ := h
    exact ⟨v0, v1, rfl, h0.frame hf, h1.frame hf⟩
  dc w cs t B := ∃ v0 v1 B0 B1, cs = [v0, v1] ∧ B = B0 ++ B1 ∧ Dc w v0 t.positions B0 ∧ Dc w v1 t.records B1
  dcf := by
    intro w w' cs t B h hf
    obtain ⟨v0, v1, B0, B1, rfl, rfl, h0, h1⟩ := h
    exact ⟨v0, v1, _, _, rfl, rfl, h0.frame (fun b hb => hf b (by simp [hb])), h1.frame (fun b hb => hf b (by simp [hb]))⟩
  dcr := by
    intro A w cs t B h hA
    obtain ⟨v0, v1, B0, B1, rfl, rfl, h0, h1⟩ := h
    exact ⟨v0, v1, rfl, h0.rd (fun b hb => hA b (by simp [hb])), h1.rd (fun b hb => hA b (by simp [hb]))⟩
  dlt := by
    intro w cs t B h b hb
    obtain ⟨v0, v1, B0, B1, rfl, rfl, h0, h1⟩ := h
    simp only [List.append_assoc, List.mem_append] at hb
    rcases hb with hb | hb
    · exact h0.lt b hb
    · exact h1.lt b hb
  flat := false
  flt h := by cases h
theorem Gtracker.rdmk {A : Nat → Prop} {w : World} {v0 : Value} {x0 : (List Int)} {v1 : Value} {x1 : (List Grecord)} (h0 : Rd A w v0 x0) (h1 : Rd A w v1 x1) : Rd A w (.agg #[v0, v1]) (⟨x0, x1⟩ : Gtracker) := by
  exact ⟨[_, _], rfl, v0, v1, rfl, h0, h1⟩
theorem Gtracker.open {A : Nat → Prop} {w : World} {v : Value} {t : Gtracker} (h : Rd A w v t) : ∃ v0 v1, v = .agg #[v0, v1] ∧ Rd A w v0 t.positions ∧ Rd A w v1 t.records := by
  obtain ⟨cs, e, h⟩ := h
  obtain ⟨v0, v1, rfl, h0, h1⟩ := h
  exact ⟨v0, v1, e, h0, h1⟩
theorem Gtracker.opens (t : Gtracker) : Opens t (fun x : Value × Value => .agg #[x.1, x.2]) (fun x => [.rd x.1 t.positions, .rd x.2 t.records]) := by
  intro A B w v h
  obtain ⟨v0, v1, e, h0, h1⟩ := Gtracker.open h
  refine ⟨(v0, v1), e, ?_⟩
  intro f hf
  simp only [List.mem_cons, List.not_mem_nil, or_false] at hf
  rcases hf with rfl | rfl
  · exact ⟨⟨rfl, rfl⟩, h0⟩
  · exact ⟨⟨rfl, rfl⟩, h1⟩
theorem Gtracker.two (y : Gtracker) : Two y y.positions y.records := fun w cs B => ⟨fun ⟨v0, v1, B0, B1, e, eB, h0, h1⟩ => ⟨v0, v1, B0, B1, e, eB, h0.ds, h1.ds⟩, fun ⟨v0, v1, B0, B1, e, eB, h0, h1⟩ => ⟨v0, v1, B0, B1, e, eB, h0.dc, h1.dc⟩⟩
theorem Gtracker.nb {x0 : (List Int)} {x1 : (List Grecord)} (h0 : Nb x0) (h1 : Nb x1) : Nb (⟨x0, x1⟩ : Gtracker) := by
  intro A w cs h
  obtain ⟨v0, v1, rfl, r0, r1⟩ := h
  obtain ⟨c0, e0, q0⟩ := r0
  obtain ⟨c1, e1, q1⟩ := r1
  exact ⟨v0, v1, [], [], rfl, rfl, ⟨c0, e0, h0 _ _ _ q0⟩, ⟨c1, e1, h1 _ _ _ q1⟩⟩
theorem Gtracker.dw {w : World} {x0 : (List Int)} {x1 : (List Grecord)} {v0 : Value} {v1 : Value} {C0 C1 C2 : List Nat} (h0 : Dw w v0 x0 C0 C1) (h1 : Dw w v1 x1 C1 C2) : Dw w (.agg #[v0, v1]) (⟨x0, x1⟩ : Gtracker) C0 C2 := by
  intro hn
  obtain ⟨B1, B2, a0, a1, nd, mem, sub⟩ := h0.two h1 hn
  exact ⟨_, ⟨[v0, v1], rfl, v0, v1, B1, B2, rfl, rfl, a0, a1⟩, nd, mem, sub⟩
theorem Gtracker.zero {A : Nat → Prop} {w : World} : ∃ zc : List Value, (Value.agg #[.slice none 0 0, .slice none 0 0]).cells = zc.toArray ∧ Rep.rdc A w zc (⟨[], []⟩ : Gtracker) := ⟨[.slice none 0 0, .slice none 0 0], rfl, _, _, rfl, rdNil, rdNil⟩

structure Gquick where
  tracker_positions : (List Int)
  tracker_records : (List Grecord)
  least : Int
  greatest : Int
instance : Rep Gquick where
  sz := 4
  agg := true
  rdc A w cs t := ∃ v0 v1, cs = [v0, v1, .int .i64 t.least, .int .i64 t.greatest] ∧ Rd A w v0 t.tracker_positions ∧ Rd A w v1 t.tracker_records
  len := by
    intro A w cs t h
    obtain ⟨v0, v1, rfl, h0, h1⟩ := h
    rfl
  one := by
    intro A w cs t h c hc
    obtain ⟨v0, v1, rfl, h0, h1⟩ := h
    simp only [List.mem_cons, List.not_mem_nil, or_false] at hc
    rcases hc with rfl | rfl | rfl | rfl
    · exact (Rd.sl h0).oneCell
    · exact (Rd.sl h1).oneCell
    · rfl
    · rfl
  pos := by decide
  single h := by cases h
  frame := by
    intro A A' w w' cs t h hf
    obtain ⟨v0, v1, rfl, h0, h1⟩ := h
    exact ⟨v0, v1, rfl, h0.frame hf, h1.frame hf⟩
  dc w cs t B := ∃ v0 v1 B0 B1, cs = [v0, v1, .int .i64 t.least, .int .i64 t.greatest] ∧ B = B0 ++ B1 ∧ Dc w v0 t.tracker_positions B0 ∧ Dc w v1 t.tracker_records B1
  dcf := by
    intro w w' cs t B h hf
    obtain ⟨v0, v1, B0, B1, rfl, rfl, h0, h1⟩ := h
    exact ⟨v0, v1, _, _, rfl, rfl, h0.frame (fun b hb => hf b (by simp [hb])), h1.frame (fun b hb => hf b (by simp [hb]))⟩
  dcr := by
    intro A w cs t B h hA
    obtain ⟨v0, v1, B0, B1, rfl, rfl, h0, h1⟩ := h
    exact ⟨v0, v1, rfl, h0.rd (fun b hb => hA b (by simp [hb])), h1.rd (fun b hb => hA b (by simp [hb]))⟩
  dlt := by
    intro w cs t B h b hb
    obtain ⟨v0, v1, B0, B1, rfl, rfl, h0, h1⟩ := h
    simp only [List.append_assoc, List.mem_append] at hb
    rcases hb with hb | hb
    · exact h0.lt b hb
    · exact h1.lt b hb
  flat := false
  flt h := by cases h
theorem Gquick.rdmk {A : Nat → Prop} {w : World} {v0 : Value} {x0 : (List Int)} {v1 : Value} {x1 : (List Grecord)} {v2 : Value} {x2 : Int} {v3 : Value} {x3 : Int} (h0 : Rd A w v0 x0) (h1 : Rd A w v1 x1) (h2 : Rd A w v2 x2) (h3 : Rd A w v3 x3) : Rd A w (.agg #[v0, v1, v2, v3]) (⟨x0, x1, x2, x3⟩ : Gquick) := by
  have e2 := Rd.int h2
  subst e2
  have e3 := Rd.int h3
  subst e3
  exact ⟨[_, _, _, _], rfl, v0, v1, rfl, h0, h1⟩
theorem Gquick.open {A : Nat → Prop} {w : World} {v : Value} {t : Gquick} (h : Rd A w v t) : ∃ v0 v1, v = .agg #[v0, v1, .int .i64 t.least, .int .i64 t.greatest] ∧ Rd A w v0 t.tracker_positions ∧ Rd A w v1 t.tracker_records := by
  obtain ⟨cs, e, h⟩ := h
  obtain ⟨v0, v1, rfl, h0, h1⟩ := h
  exact ⟨v0, v1, e, h0, h1⟩
theorem Gquick.opens (t : Gquick) : Opens t (fun x : Value × Value => .agg #[x.1, x.2, .int .i64 t.least, .int .i64 t.greatest]) (fun x => [.rd x.1 t.tracker_positions, .rd x.2 t.tracker_records]) := by
  intro A B w v h
  obtain ⟨v0, v1, e, h0, h1⟩ := Gquick.open h
  refine ⟨(v0, v1), e, ?_⟩
  intro f hf
  simp only [List.mem_cons, List.not_mem_nil, or_false] at hf
  rcases hf with rfl | rfl
  · exact ⟨⟨rfl, rfl⟩, h0⟩
  · exact ⟨⟨rfl, rfl⟩, h1⟩
theorem Gquick.nb {x0 : (List Int)} {x1 : (List Grecord)} {x2 : Int} {x3 : Int} (h0 : Nb x0) (h1 : Nb x1) : Nb (⟨x0, x1, x2, x3⟩ : Gquick) := by
  intro A w cs h
  obtain ⟨v0, v1, rfl, r0, r1⟩ := h
  obtain ⟨c0, e0, q0⟩ := r0
  obtain ⟨c1, e1, q1⟩ := r1
  exact ⟨v0, v1, [], [], rfl, rfl, ⟨c0, e0, h0 _ _ _ q0⟩, ⟨c1, e1, h1 _ _ _ q1⟩⟩
theorem Gquick.dw {w : World} {x0 : (List Int)} {x1 : (List Grecord)} {x2 : Int} {x3 : Int} {v0 : Value} {v1 : Value} {C0 C1 C2 : List Nat} (h0 : Dw w v0 x0 C0 C1) (h1 : Dw w v1 x1 C1 C2) : Dw w (.agg #[v0, v1, .int .i64 x2, .int .i64 x3]) (⟨x0, x1, x2, x3⟩ : Gquick) C0 C2 := by
  intro hn
  obtain ⟨B1, B2, a0, a1, nd, mem, sub⟩ := h0.two h1 hn
  exact ⟨_, ⟨[v0, v1, .int .i64 x2, .int .i64 x3], rfl, v0, v1, B1, B2, rfl, rfl, a0, a1⟩, nd, mem, sub⟩
theorem Gquick.zero {A : Nat → Prop} {w : World} : ∃ zc : List Value, (Value.agg #[.slice none 0 0, .slice none 0 0, .int .i64 0, .int .i64 0]).cells = zc.toArray ∧ Rep.rdc A w zc (⟨[], [], 0, 0⟩ : Gquick) := ⟨[.slice none 0 0, .slice none 0 0, .int .i64 0, .int .i64 0], rfl, _, _, rfl, rdNil, rdNil⟩

structure Grunner where
  m_Symbols : Int
  m_States : Int
  m_Rules : (List GRule)
  state : Int
  left : (List Int)
  right : (List Int)
instance : Rep Grunner where
  sz := 6
  agg := true
  rdc A w cs t := ∃ v2 v4 v5, cs = [.int .i64 t.m_Symbols, .int .i64 t.m_States, v2, .int .i64 t.state, v4, v5] ∧ Rd A w v2 t.m_Rules ∧ Rd A w v4 t.left ∧ Rd A w v5 t.right
  len := by
    intro A w cs t h
    obtain ⟨v2, v4, v5, rfl, h2, h4, h5⟩ := h
    rfl
  one := by
    intro A w cs t h c hc
    obtain ⟨v2, v4, v5, rfl, h2, h4, h5⟩ := h
    simp only [List.mem_cons, List.not_mem_nil, or_false] at hc
    rcases hc with rfl | rfl | rfl | rfl | rfl | rfl
    · rfl
    · rfl
    · exact (Rd.sl h2).oneCell
    · rfl
    · exact (Rd.sl h4).oneCell
    · exact (Rd.sl h5).oneCell
  pos := by decide
  single h := by cases h
  frame := by
    intro A A' w w' cs t h hf
    obtain ⟨v2, v4, v5, rfl, h2, h4, h5⟩ := h
    exact ⟨v2, v4, v5, rfl, h2.frame hf, h4.frame hf, h5.frame hf⟩
  dc w cs t B := ∃ v2 v4 v5 B2 B4 B5, cs = [.int .i64 t.m_Symbols, .int .i64 t.m_States, v2, .int .i64 t.state, v4, v5] ∧ B = B2 ++ B4 ++ B5 ∧ Dc w v2 t.m_Rules B2 ∧ Dc w v4 t.left B4 ∧ Dc w v5 t.right B5
  dcf := by
    intro w w' cs t B h hf
    obtain ⟨v2, v4, v5, B2, B4, B5, rfl, rfl, h2, h4, h5⟩ := h
    exact ⟨v2, v4, v5, _, _, _, rfl, rfl, h2.frame (fun b hb => hf b (by simp [hb])), h4.frame (fun b hb => hf b (by simp [hb])), h5.frame (fun b hb => hf b (by simp [hb]))⟩
  dcr := by
    intro A w cs t B h hA
    obtain ⟨v2, v4, v5, B2, B4, B5, rfl, rfl, h2, h4, h5⟩ := h
    exact ⟨v2, v4, v5, rfl, h2.rd (fun b hb => hA b (by simp [hb])), h4.rd (fun b hb => hA b (by simp [hb])), h5.rd (fun b hb => hA b (by simp [hb]))⟩
  dlt := by
    intro w cs t B h b hb
    obtain ⟨v2, v4, v5, B2, B4, B5, rfl, rfl, h2, h4, h5⟩ := h
    simp only [List.append_assoc, List.mem_append] at hb
    rcases hb with hb | hb | hb
    · exact h2.lt b hb
    · exact h4.lt b hb
    · exact h5.lt b hb
  flat := false
  flt h := by cases h
theorem Grunner.rdmk {A : Nat → Prop} {w : World} {v0 : Value} {x0 : Int} {v1 : Value} {x1 : Int} {v2 : Value} {x2 : (List GRule)} {v3 : Value} {x3 : Int} {v4 : Value} {x4 : (List Int)} {v5 : Value} {x5 : (List Int)} (h0 : Rd A w v0 x0) (h1 : Rd A w v1 x1) (h2 : Rd A w v2 x2) (h3 : Rd A w v3 x3) (h4 : Rd A w v4 x4) (h5 : Rd A w v5 x5) : Rd A w (.agg #[v0, v1, v2, v3, v4, v5]) (⟨x0, x1, x2, x3, x4, x5⟩ : Grunner) := by
  have e0 := Rd.int h0
  subst e0
  have e1 := Rd.int h1
  subst e1
  have e3 := Rd.int h3
  subst e3
  exact ⟨[_, _, _, _, _, _], rfl, v2, v4, v5, rfl, h2, h4, h5⟩
theorem Grunner.open {A : Nat → Prop} {w : World} {v : Value} {t : Grunner} (h : Rd A w v t) : ∃ v2 v4 v5, v = .agg #[.int .i64 t.m_Symbols, .int .i64 t.m_States, v2, .int .i64 t.state, v4, v5] ∧ Rd A w v2 t.m_Rules ∧ Rd A w v4 t.left ∧ Rd A w v5 t.right := by
  obtain ⟨cs, e, h⟩ := h
  obtain ⟨v2, v4, v5, rfl, h2, h4, h5⟩ := h
  exact ⟨v2, v4, v5, e, h2, h4, h5⟩
theorem Grunner.opens (t : Grunner) : Opens t (fun x : Value × Value × Value => .agg #[.int .i64 t.m_Symbols, .int .i64 t.m_States, x.1, .int .i64 t.state, x.2.1, x.2.2]) (fun x => [.rd x.1 t.m_Rules, .rd x.2.1 t.left, .rd x.2.2 t.right]) := by
  intro A B w v h
  obtain ⟨v2, v4, v5, e, h2, h4, h5⟩ := Grunner.open h
  refine ⟨(v2, v4, v5), e, ?_⟩
  intro f hf
  simp only [List.mem_cons, List.not_mem_nil, or_false] at hf
  rcases hf with rfl | rfl | rfl
  · exact ⟨⟨rfl, rfl⟩, h2⟩
  · exact ⟨⟨rfl, rfl⟩, h4⟩
  · exact ⟨⟨rfl, rfl⟩, h5⟩
theorem Grunner.at_state (t : Grunner) : Part 3 t t.state := by
  intro A w cs h
  obtain ⟨v2, v4, v5, rfl, h2, h4, h5⟩ := h
  refine ⟨[.int .i64 t.state], ?_, rfl⟩
  intro j u hj
  match j, hj with
  | 0, hj => simpa using hj
theorem Grunner.at_left (t : Grunner) : Part 4 t t.left := by
  intro A w cs h
  obtain ⟨v2, v4, v5, rfl, h2, h4, h5⟩ := h
  refine ⟨[v4], ?_, h4.cell rfl⟩
  intro j u hj
  match j, hj with
  | 0, hj => simpa using hj
theorem Grunner.at_right (t : Grunner) : Part 5 t t.right := by
  intro A w cs h
  obtain ⟨v2, v4, v5, rfl, h2, h4, h5⟩ := h
  refine ⟨[v5], ?_, h5.cell rfl⟩
  intro j u hj
  match j, hj with
  | 0, hj => simpa using hj
theorem Grunner.at_m (t : Grunner) : Part 0 t (⟨t.m_Symbols, t.m_States, t.m_Rules⟩ : GMachine) := by
  intro A w cs h
  obtain ⟨v2, v4, v5, rfl, h2, h4, h5⟩ := h
  refine ⟨[.int .i64 t.m_Symbols, .int .i64 t.m_States, v2], ?_, ⟨v2, rfl, h2⟩⟩
  intro j u hj
  match j, hj with
  | 0, hj => simpa using hj
  | 1, hj => simpa using hj
  | 2, hj => simpa using hj
theorem Grunner.nb {x0 : Int} {x1 : Int} {x2 : (List GRule)} {x3 : Int} {x4 : (List Int)} {x5 : (List Int)} (h2 : Nb x2) (h4 : Nb x4) (h5 : Nb x5) : Nb (⟨x0, x1, x2, x3, x4, x5⟩ : Grunner) := by
  intro A w cs h
  obtain ⟨v2, v4, v5, rfl, r2, r4, r5⟩ := h
  obtain ⟨c2, e2, q2⟩ := r2
  obtain ⟨c4, e4, q4⟩ := r4
  obtain ⟨c5, e5, q5⟩ := r5
  exact ⟨v2, v4, v5, [], [], [], rfl, rfl, ⟨c2, e2, h2 _ _ _ q2⟩, ⟨c4, e4, h4 _ _ _ q4⟩, ⟨c5, e5, h5 _ _ _ q5⟩⟩
theorem Grunner.dw {w : World} {x0 : Int} {x1 : Int} {x2 : (List GRule)} {x3 : Int} {x4 : (List Int)} {x5 : (List Int)} {v2 : Value} {v4 : Value} {v5 : Value} {C0 C1 C2 C3 : List Nat} (h2 : Dw w v2 x2 C0 C1) (h4 : Dw w v4 x4 C1 C2) (h5 : Dw w v5 x5 C2 C3) : Dw w (.agg #[.int .i64 x0, .int .i64 x1, v2, .int .i64 x3, v4, v5]) (⟨x0, x1, x2, x3, x4, x5⟩ : Grunner) C0 C3 := by
  intro hn
  obtain ⟨B1, B2, B3, a0, a1, a2, nd, mem, sub⟩ := h2.three h4 h5 hn
  exact ⟨_, ⟨[.int .i64 x0, .int .i64 x1, v2, .int .i64 x3, v4, v5], rfl, v2, v4, v5, B1, B2, B3, rfl, rfl, a0, a1, a2⟩, nd, mem, sub⟩
theorem Grunner.zero {A : Nat → Prop} {w : World} : ∃ zc : List Value, (Value.agg #[.int .i64 0, .int .i64 0, .slice none 0 0, .int .i64 0, .slice none 0 0, .slice none 0 0]).cells = zc.toArray ∧ Rep.rdc A w zc (⟨0, 0, [], 0, [], []⟩ : Grunner) := ⟨[.int .i64 0, .int .i64 0, .slice none 0 0, .int .i64 0, .slice none 0 0, .slice none 0 0], rfl, _, _, _, rfl, rdNil, rdNil, rdNil⟩

structure Gl00Src where
  code : (List (Ik .u8))
  at_ : Int
  seed : (Ik .u64)
instance : Rep Gl00Src where
  sz := 3
  agg := true
  rdc A w cs t := ∃ v0, cs = [v0, .int .i64 t.at_, .int .u64 t.seed.val] ∧ Rd A w v0 t.code
  len := by
    intro A w cs t h
    obtain ⟨v0, rfl, h0⟩ := h
    rfl
  one := by
    intro A w cs t h c hc
    obtain ⟨v0, rfl, h0⟩ := h
    simp only [List.mem_cons, List.not_mem_nil, or_false] at hc
    rcases hc with rfl | rfl | rfl
    · exact (Rd.sl h0).oneCell
    · rfl
    · rfl
  pos := by decide
  single h := by cases h
  frame := by
    intro A A' w w' cs t h hf
    obtain ⟨v0, rfl, h0⟩ := h
    exact ⟨v0, rfl, h0.frame hf⟩
  dc w cs t B := ∃ v0 B0, cs = [v0, .int .i64 t.at_, .int .u64 t.seed.val] ∧ B = B0 ∧ Dc w v0 t.code B0
  dcf := by
    intro w w' cs t B h hf
    obtain ⟨v0, B0, rfl, rfl, h0⟩ := h
    exact ⟨v0, _, rfl, rfl, h0.frame (fun b hb => hf b (by simp [hb]))⟩
  dcr := by
    intro A w cs t B h hA
    obtain ⟨v0, B0, rfl, rfl, h0⟩ := h
    exact ⟨v0, rfl, h0.rd (fun b hb => hA b (by simp [hb]))⟩
  dlt := by
    intro w cs t B h b hb
    obtain ⟨v0, B0, rfl, rfl, h0⟩ := h
    exact h0.lt b hb
  flat := false
  flt h := by cases h
theorem Gl00Src.rdmk {A : Nat → Prop} {w : World} {v0 : Value} {x0 : (List (Ik .u8))} {v1 : Value} {x1 : Int} {v2 : Value} {x2 : (Ik .u64)} (h0 : Rd A w v0 x0) (h1 : Rd A w v1 x1) (h2 : Rd A w v2 x2) : Rd A w (.agg #[v0, v1, v2]) (⟨x0, x1, x2⟩ : Gl00Src) := by
  have e1 := Rd.int h1
  subst e1
  have e2 := Rd.ik h2
  subst e2
  exact ⟨[_, _, _], rfl, v0, rfl, h0⟩
theorem Gl00Src.open {A : Nat → Prop} {w : World} {v : Value} {t : Gl00Src} (h : Rd A w v t) : ∃ v0, v = .agg #[v0, .int .i64 t.at_, .int .u64 t.seed.val] ∧ Rd A w v0 t.code := by
  obtain ⟨cs, e, h⟩ := h
  obtain ⟨v0, rfl, h0⟩ := h
  exact ⟨v0, e, h0⟩
theorem Gl00Src.opens (t : Gl00Src) : Opens t (fun x : Value => .agg #[x, .int .i64 t.at_, .int .u64 t.seed.val]) (fun x => [.rd x t.code]) := by
  intro A B w v h
  obtain ⟨v0, e, h0⟩ := Gl00Src.open h
  refine ⟨v0, e, ?_⟩
  intro f hf
  simp only [List.mem_cons, List.not_mem_nil, or_false] at hf
  rcases hf with rfl
  · exact ⟨⟨rfl, rfl⟩, h0⟩
theorem Gl00Src.nb {x0 : (List (Ik .u8))} {x1 : Int} {x2 : (Ik .u64)} (h0 : Nb x0) : Nb (⟨x0, x1, x2⟩ : Gl00Src) := by
  intro A w cs h
  obtain ⟨v0, rfl, r0⟩ := h
  obtain ⟨c0, e0, q0⟩ := r0
  exact ⟨v0, [], rfl, rfl, ⟨c0, e0, h0 _ _ _ q0⟩⟩
theorem Gl00Src.dw {w : World} {x0 : (List (Ik .u8))} {x1 : Int} {x2 : (Ik .u64)} {v0 : Value} {C0 C1 : List Nat} (h0 : Dw w v0 x0 C0 C1) : Dw w (.agg #[v0, .int .i64 x1, .int .u64 x2.val]) (⟨x0, x1, x2⟩ : Gl00Src) C0 C1 := by
  intro hn
  obtain ⟨B, a0, nd, mem, sub⟩ := h0 hn
  exact ⟨_, ⟨[v0, .int .i64 x1, .int .u64 x2.val], rfl, v0, B, rfl, rfl, a0⟩, nd, mem, sub⟩
theorem Gl00Src.zero {A : Nat → Prop} {w : World} : ∃ zc : List Value, (Value.agg #[.slice none 0 0, .int .i64 0, .int .u64 0]).cells = zc.toArray ∧ Rep.rdc A w zc (⟨[], 0, ⟨0⟩⟩ : Gl00Src) := ⟨[.slice none 0 0, .int .i64 0, .int .u64 0], rfl, _, rfl, rdNil⟩

end Go.Fn
