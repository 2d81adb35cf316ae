/-
  The structures of the program, as plain Lean data, and how they are laid in memory. No condition.
-/
import Derived.Test.YtafjflnnkdbmdaaPure
namespace Go.Fn
open Go Go.Tc

structure GRule where
  Write : Int
  Move : Int
  Next : Int
instance : DecidableEq GRule := fun a b =>
  if h : a.Write = b.Write ∧ a.Move = b.Move ∧ a.Next = b.Next then isTrue (by cases a; cases b; simp_all) else isFalse (by rintro rfl; simp at h)
instance : Rep GRule where
  sz := 3
  agg := true
  rdc A w cs t := cs = [.int .i64 t.Write, .int .i64 t.Move, .int .i64 t.Next]
  len := by
    intro A w cs t h
    obtain rfl := h
    rfl
  one := by
    intro A w cs t h c hc
    obtain rfl := h
    simp only [List.mem_cons, List.not_mem_nil, or_false] at hc
    rcases hc with rfl | rfl | rfl
    · rfl
    · rfl
    · rfl
  pos := by decide
  single h := by cases h
  frame := by
    intro A A' w w' cs t h hf
    obtain rfl := h
    exact rfl
  dc _ cs t B := cs = [.int .i64 t.Write, .int .i64 t.Move, .int .i64 t.Next] ∧ B = []
  dcf h _ := h
  dcr h _ := h.1
  dlt h b hb := by simp [h.2] at hb
  flat := true
  flt _ h := ⟨h, rfl⟩
theorem GRule.rdmk {A : Nat → Prop} {w : World} {v0 : Value} {x0 : Int} {v1 : Value} {x1 : Int} {v2 : Value} {x2 : Int} (h0 : Rd A w v0 x0) (h1 : Rd A w v1 x1) (h2 : Rd A w v2 x2) : Rd A w (.agg #[v0, v1, v2]) (⟨x0, x1, x2⟩ : GRule) := by
  have e0 := Rd.int h0
  subst e0
  have e1 := Rd.int h1
  subst e1
  have e2 := Rd.int h2
  subst e2
  exact ⟨[_, _, _], rfl, rfl⟩
theorem GRule.open {A : Nat → Prop} {w : World} {v : Value} {t : GRule} (h : Rd A w v t) : v = .agg #[.int .i64 t.Write, .int .i64 t.Move, .int .i64 t.Next] := by
  obtain ⟨cs, e, h⟩ := h
  subst h
  exact e
theorem GRule.opens (t : GRule) : Opens t (fun _ : Unit => .agg #[.int .i64 t.Write, .int .i64 t.Move, .int .i64 t.Next]) (fun _ => []) := by
  intro A B w v h
  exact ⟨(), GRule.open h, by simp⟩
theorem GRule.at_Write (t : GRule) : Part 0 t t.Write := by
  intro A w cs h
  obtain rfl := h
  refine ⟨[.int .i64 t.Write], ?_, rfl⟩
  intro j u hj
  match j, hj with
  | 0, hj => simpa using hj
theorem GRule.at_Move (t : GRule) : Part 1 t t.Move := by
  intro A w cs h
  obtain rfl := h
  refine ⟨[.int .i64 t.Move], ?_, rfl⟩
  intro j u hj
  match j, hj with
  | 0, hj => simpa using hj
theorem GRule.at_Next (t : GRule) : Part 2 t t.Next := by
  intro A w cs h
  obtain rfl := h
  refine ⟨[.int .i64 t.Next], ?_, rfl⟩
  intro j u hj
  match j, hj with
  | 0, hj => simpa using hj
def GRule.enc (t : GRule) : Value := .agg #[.int .i64 t.Write, .int .i64 t.Move, .int .i64 t.Next]
theorem GRule.nb {x : GRule} : Nb x := nb_flat rfl x
theorem GRule.dw {w : World} {x0 : Int} {x1 : Int} {x2 : Int} {C : List Nat} : Dw w (.agg #[.int .i64 x0, .int .i64 x1, .int .i64 x2]) (⟨x0, x1, x2⟩ : GRule) C C := fun _ => ⟨[], ⟨[.int .i64 x0, .int .i64 x1, .int .i64 x2], rfl, rfl, rfl⟩, by simp, by simp, List.Sublist.refl _⟩
theorem GRule.fs_Write (y : GRule) : FSt 0 y (fun z => (⟨z, y.Move, y.Next⟩ : GRule)) := by
  intro w c Bi h
  obtain ⟨rfl, rfl⟩ := h
  exact ⟨by simp, fun k => ⟨rfl, rfl⟩⟩
theorem GRule.fs_Move (y : GRule) : FSt 1 y (fun z => (⟨y.Write, z, y.Next⟩ : GRule)) := by
  intro w c Bi h
  obtain ⟨rfl, rfl⟩ := h
  exact ⟨by simp, fun k => ⟨rfl, rfl⟩⟩
theorem GRule.fs_Next (y : GRule) : FSt 2 y (fun z => (⟨y.Write, y.Move, z⟩ : GRule)) := by
  intro w c Bi h
  obtain ⟨rfl, rfl⟩ := h
  exact ⟨by simp, fun k => ⟨rfl, rfl⟩⟩
theorem GRule.zero {A : Nat → Prop} {w : World} : ∃ zc : List Value, (Value.agg #[.int .i64 0, .int .i64 0, .int .i64 0]).cells = zc.toArray ∧ Rep.rdc A w zc (⟨0, 0, 0⟩ : GRule) := ⟨[.int .i64 0, .int .i64 0, .int .i64 0], rfl, rfl⟩

structure GMachine where
  Symbols : Int
  States : Int
  Rules : (List GRule)
instance : Rep GMachine where
  sz := 3
  agg := true
  rdc A w cs t := ∃ v2, cs = [.int .i64 t.Symbols, .int .i64 t.States, v2] ∧ Rd A w v2 t.Rules
  len := by
    intro A w cs t h
    obtain ⟨v2, rfl, h2⟩ := h
    rfl
  one := by
    intro A w cs t h c hc
    obtain ⟨v2, rfl, h2⟩ := h
    simp only [List.mem_cons, List.not_mem_nil, or_false] at hc
    rcases hc with rfl | rfl | rfl
    · rfl
    · rfl
    · exact (Rd.sl h2).oneCell
  pos := by decide
  single h := by cases h
  frame := by
    intro A A' w w' cs t h hf
    obtain ⟨v2, rfl, h2⟩ := h
    exact ⟨v2, rfl, h2.frame hf⟩
  dc w cs t B := ∃ v2 B2, cs = [.int .i64 t.Symbols, .int .i64 t.States, v2] ∧ B = B2 ∧ Dc w v2 t.Rules B2
  dcf := by
    intro w w' cs t B h hf
    obtain ⟨v2, B2, rfl, rfl, h2⟩ := h
    exact ⟨v2, _, rfl, rfl, h2.frame (fun b hb => hf b (by simp [hb]))⟩
  dcr := by
    intro A w cs t B h hA
    obtain ⟨v2, B2, rfl, rfl, h2⟩ := h
    exact ⟨v2, rfl, h2.rd (fun b hb => hA b (by simp [hb]))⟩
  dlt := by
    intro w cs t B h b hb
    obtain ⟨v2, B2, rfl, rfl, h2⟩ := h
    exact h2.lt b hb
  flat := false
  flt h := by cases h
theorem GMachine.rdmk {A : Nat → Prop} {w : World} {v0 : Value} {x0 : Int} {v1 : Value} {x1 : Int} {v2 : Value} {x2 : (List GRule)} (h0 : Rd A w v0 x0) (h1 : Rd A w v1 x1) (h2 : Rd A w v2 x2) : Rd A w (.agg #[v0, v1, v2]) (⟨x0, x1, x2⟩ : GMachine) := by
  have e0 := Rd.int h0
  subst e0
  have e1 := Rd.int h1
  subst e1
  exact ⟨[_, _, _], rfl, v2, rfl, h2⟩
theorem GMachine.open {A : Nat → Prop} {w : World} {v : Value} {t : GMachine} (h : Rd A w v t) : ∃ v2, v = .agg #[.int .i64 t.Symbols, .int .i64 t.States, v2] ∧ Rd A w v2 t.Rules := by
  obtain ⟨cs, e, h⟩ := h
  obtain ⟨v2, rfl, h2⟩ := h
  exact ⟨v2, e, h2⟩
theorem GMachine.opens (t : GMachine) : Opens t (fun x : Value => .agg #[.int .i64 t.Symbols, .int .i64 t.States, x]) (fun x => [.rd x t.Rules]) := by
  intro A B w v h
  obtain ⟨v2, e, h2⟩ := GMachine.open h
  refine ⟨v2, e, ?_⟩
  intro f hf
  simp only [List.mem_cons, List.not_mem_nil, or_false] at hf
  rcases hf with rfl
  · exact ⟨⟨rfl, rfl⟩, h2⟩
theorem GMachine.at_Symbols (t : GMachine) : Part 0 t t.Symbols := by
  intro A w cs h
  obtain ⟨v2, rfl, h2⟩ := h
  refine ⟨[.int .i64 t.Symbols], ?_, rfl⟩
  intro j u hj
  match j, hj with
  | 0, hj => simpa using hj
theorem GMachine.at_States (t : GMachine) : Part 1 t t.States := by
  intro A w cs h
  obtain ⟨v2, rfl, h2⟩ := h
  refine ⟨[.int .i64 t.States], ?_, rfl⟩
  intro j u hj
  match j, hj with
  | 0, hj => simpa using hj
theorem GMachine.at_Rules (t : GMachine) : Part 2 t t.Rules := by
  intro A w cs h
  obtain ⟨v2, rfl, h2⟩ := h
  refine ⟨[v2], ?_, h2.cell rfl⟩
  intro j u hj
  match j, hj with
  | 0, hj => simpa using hj
theorem GMachine.nb {x0 : Int} {x1 : Int} {x2 : (List GRule)} (h2 : Nb x2) : Nb (⟨x0, x1, x2⟩ : GMachine) := by
  intro A w cs h
  obtain ⟨v2, rfl, r2⟩ := h
  obtain ⟨c2, e2, q2⟩ := r2
  exact ⟨v2, [], rfl, rfl, ⟨c2, e2, h2 _ _ _ q2⟩⟩
theorem GMachine.dw {w : World} {x0 : Int} {x1 : Int} {x2 : (List GRule)} {v2 : Value} {C0 C1 : List Nat} (h2 : Dw w v2 x2 C0 C1) : Dw w (.agg #[.int .i64 x0, .int .i64 x1, v2]) (⟨x0, x1, x2⟩ : GMachine) C0 C1 := by
  intro hn
  obtain ⟨B, a0, nd, mem, sub⟩ := h2 hn
  exact ⟨_, ⟨[.int .i64 x0, .int .i64 x1, v2], rfl, v2, B, rfl, rfl, a0⟩, nd, mem, sub⟩
theorem GMachine.zero {A : Nat → Prop} {w : World} : ∃ zc : List Value, (Value.agg #[.int .i64 0, .int .i64 0, .slice none 0 0]).cells = zc.toArray ∧ Rep.rdc A w zc (⟨0, 0, []⟩ : GMachine) := ⟨[.int .i64 0, .int .i64 0, .slice none 0 0], rfl, _, rfl, rdNil⟩

structure GMultiRule where
  State : Int
  Read : (List Int)
  Write : (List Int)
  Move : (List Int)
  Next : Int
instance : DecidableEq GMultiRule := fun a b =>
  if h : a.State = b.State ∧ a.Read = b.Read ∧ a.Write = b.Write ∧ a.Move = b.Move ∧ a.Next = b.Next then isTrue (by cases a; cases b; simp_all) else isFalse (by rintro rfl; simp at h)
instance : Rep GMultiRule where
  sz := 5
  agg := true
  rdc A w cs t := ∃ v1 v2 v3, cs = [.int .i64 t.State, v1, v2, v3, .int .i64 t.Next] ∧ Rd A w v1 t.Read ∧ Rd A w v2 t.Write ∧ Rd A w v3 t.Move
  len := by
    intro A w cs t h
    obtain ⟨v1, v2, v3, rfl, h1, h2, h3⟩ := h
    rfl
  one := by
    intro A w cs t h c hc
    obtain ⟨v1, v2, v3, rfl, h1, h2, h3⟩ := h
    simp only [List.mem_cons, List.not_mem_nil, or_false] at hc
    rcases hc with rfl | rfl | rfl | rfl | rfl
    · rfl
    · exact (Rd.sl h1).oneCell
    · exact (Rd.sl h2).oneCell
    · exact (Rd.sl h3).oneCell
    · rfl
  pos := by decide
  single h := by cases h
  frame := by
    intro A A' w w' cs t h hf
    obtain ⟨v1, v2, v3, rfl, h1, h2, h3⟩ := h
    exact ⟨v1, v2, v3, rfl, h1.frame hf, h2.frame hf, h3.frame hf⟩
  dc w cs t B := ∃ v1 v2 v3 B1 B2 B3, cs = [.int .i64 t.State, v1, v2, v3, .int .i64 t.Next] ∧ B = B1 ++ B2 ++ B3 ∧ Dc w v1 t.Read B1 ∧ Dc w v2 t.Write B2 ∧ Dc w v3 t.Move B3
  dcf := by
    intro w w' cs t B h hf
    obtain ⟨v1, v2, v3, B1, B2, B3, rfl, rfl, h1, h2, h3⟩ := h
    exact ⟨v1, v2, v3, _, _, _, rfl, rfl, h1.frame (fun b hb => hf b (by simp [hb])), h2.frame (fun b hb => hf b (by simp [hb])), h3.frame (fun b hb => hf b (by simp [hb]))⟩
  dcr := by
    intro A w cs t B h hA
    obtain ⟨v1, v2, v3, B1, B2, B3, rfl, rfl, h1, h2, h3⟩ := h
    exact ⟨v1, v2, v3, rfl, h1.rd (fun b hb => hA b (by simp [hb])), h2.rd (fun b hb => hA b (by simp [hb])), h3.rd (fun b hb => hA b (by simp [hb]))⟩
  dlt := by
    intro w cs t B h b hb
    obtain ⟨v1, v2, v3, B1, B2, B3, rfl, rfl, h1, h2, h3⟩ := h
    simp only [List.append_assoc, List.mem_append] at hb
    rcases hb with hb | hb | hb
    · exact h1.lt b hb
    · exact h2.lt b hb
    · exact h3.lt b hb
  flat := false
  flt h := by cases h
theorem GMultiRule.rdmk {A : Nat → Prop} {w : World} {v0 : Value} {x0 : Int} {v1 : Value} {x1 : (List Int)} {v2 : Value} {x2 : (List Int)} {v3 : Value} {x3 : (List Int)} {v4 : Value} {x4 : Int} (h0 : Rd A w v0 x0) (h1 : Rd A w v1 x1) (h2 : Rd A w v2 x2) (h3 : Rd A w v3 x3) (h4 : Rd A w v4 x4) : Rd A w (.agg #[v0, v1, v2, v3, v4]) (⟨x0, x1, x2, x3, x4⟩ : GMultiRule) := by
  have e0 := Rd.int h0
  subst e0
  have e4 := Rd.int h4
  subst e4
  exact ⟨[_, _, _, _, _], rfl, v1, v2, v3, rfl, h1, h2, h3⟩
theorem GMultiRule.open {A : Nat → Prop} {w : World} {v : Value} {t : GMultiRule} (h : Rd A w v t) : ∃ v1 v2 v3, v = .agg #[.int .i64 t.State, v1, v2, v3, .int .i64 t.Next] ∧ Rd A w v1 t.Read ∧ Rd A w v2 t.Write ∧ Rd A w v3 t.Move := by
  obtain ⟨cs, e, h⟩ := h
  obtain ⟨v1, v2, v3, rfl, h1, h2, h3⟩ := h
  exact ⟨v1, v2, v3, e, h1, h2, h3⟩
theorem GMultiRule.opens (t : GMultiRule) : Opens t (fun x : Value × Value × Value => .agg #[.int .i64 t.State, x.1, x.2.1, x.2.2, .int .i64 t.Next]) (fun x => [.rd x.1 t.Read, .rd x.2.1 t.Write, .rd x.2.2 t.Move]) := by
  intro A B w v h
  obtain ⟨v1, v2, v3, e, h1, h2, h3⟩ := GMultiRule.open h
  refine ⟨(v1, v2, v3), e, ?_⟩
  intro f hf
  simp only [List.mem_cons, List.not_mem_nil, or_false] at hf
  rcases hf with rfl | rfl | rfl
  · exact ⟨⟨rfl, rfl⟩, h1⟩
  · exact ⟨⟨rfl, rfl⟩, h2⟩
  · exact ⟨⟨rfl, rfl⟩, h3⟩
theorem GMultiRule.at_State (t : GMultiRule) : Part 0 t t.State := by
  intro A w cs h
  obtain ⟨v1, v2, v3, rfl, h1, h2, h3⟩ := h
  refine ⟨[.int .i64 t.State], ?_, rfl⟩
  intro j u hj
  match j, hj with
  | 0, hj => simpa using hj
theorem GMultiRule.at_Read (t : GMultiRule) : Part 1 t t.Read := by
  intro A w cs h
  obtain ⟨v1, v2, v3, rfl, h1, h2, h3⟩ := h
  refine ⟨[v1], ?_, h1.cell rfl⟩
  intro j u hj
  match j, hj with
  | 0, hj => simpa using hj
theorem GMultiRule.at_Write (t : GMultiRule) : Part 2 t t.Write := by
  intro A w cs h
  obtain ⟨v1, v2, v3, rfl, h1, h2, h3⟩ := h
  refine ⟨[v2], ?_, h2.cell rfl⟩
  intro j u hj
  match j, hj with
  | 0, hj => simpa using hj
theorem GMultiRule.at_Move (t : GMultiRule) : Part 3 t t.Move := by
  intro A w cs h
  obtain ⟨v1, v2, v3, rfl, h1, h2, h3⟩ := h
  refine ⟨[v3], ?_, h3.cell rfl⟩
  intro j u hj
  match j, hj with
  | 0, hj => simpa using hj
theorem GMultiRule.at_Next (t : GMultiRule) : Part 4 t t.Next := by
  intro A w cs h
  obtain ⟨v1, v2, v3, rfl, h1, h2, h3⟩ := h
  refine ⟨[.int .i64 t.Next], ?_, rfl⟩
  intro j u hj
  match j, hj with
  | 0, hj => simpa using hj
theorem GMultiRule.nb {x0 : Int} {x1 : (List Int)} {x2 : (List Int)} {x3 : (List Int)} {x4 : Int} (h1 : Nb x1) (h2 : Nb x2) (h3 : Nb x3) : Nb (⟨x0, x1, x2, x3, x4⟩ : GMultiRule) := by
  intro A w cs h
  obtain ⟨v1, v2, v3, rfl, r1, r2, r3⟩ := h
  obtain ⟨c1, e1, q1⟩ := r1
  obtain ⟨c2, e2, q2⟩ := r2
  obtain ⟨c3, e3, q3⟩ := r3
  exact ⟨v1, v2, v3, [], [], [], rfl, rfl, ⟨c1, e1, h1 _ _ _ q1⟩, ⟨c2, e2, h2 _ _ _ q2⟩, ⟨c3, e3, h3 _ _ _ q3⟩⟩
theorem GMultiRule.dw {w : World} {x0 : Int} {x1 : (List Int)} {x2 : (List Int)} {x3 : (List Int)} {x4 : Int} {v1 : Value} {v2 : Value} {v3 : Value} {C0 C1 C2 C3 : List Nat} (h1 : Dw w v1 x1 C0 C1) (h2 : Dw w v2 x2 C1 C2) (h3 : Dw w v3 x3 C2 C3) : Dw w (.agg #[.int .i64 x0, v1, v2, v3, .int .i64 x4]) (⟨x0, x1, x2, x3, x4⟩ : GMultiRule) C0 C3 := by
  intro hn
  obtain ⟨B1, B2, B3, a0, a1, a2, nd, mem, sub⟩ := h1.three h2 h3 hn
  exact ⟨_, ⟨[.int .i64 x0, v1, v2, v3, .int .i64 x4], rfl, v1, v2, v3, B1, B2, B3, rfl, rfl, a0, a1, a2⟩, nd, mem, sub⟩
theorem GMultiRule.fs_State (y : GMultiRule) : FSt 0 y (fun z => (⟨z, y.Read, y.Write, y.Move, y.Next⟩ : GMultiRule)) := by
  intro w c Bi h
  obtain ⟨v1, v2, v3, B1, B2, B3, rfl, rfl, h1, h2, h3⟩ := h
  exact ⟨by simp, fun k => ⟨v1, v2, v3, _, _, _, rfl, rfl, h1, h2, h3⟩⟩
theorem GMultiRule.fc_Read (y : GMultiRule) : FC 1 y y.Read (fun z => (⟨y.State, z, y.Write, y.Move, y.Next⟩ : GMultiRule)) := by
  intro w c Bi h
  obtain ⟨v1, v2, v3, B1, B2, B3, rfl, rfl, h1, h2, h3⟩ := h
  refine ⟨v1, _, rfl, h1.ds, fun hn => ?_, fun b hb => by simp [hb], fun w' z' hz hn hf => ?_⟩
  · simp only [List.nodup_append] at hn
    first | exact hn.1 | exact hn.2.1 | exact hn.1.1 | exact hn.1.2.1
  · exact ⟨v1, v2, v3, _, _, _, rfl, rfl, hz.dc, h2.frame (fun b hb => hf b (by simp [hb]) (fun hm => by simp only [List.nodup_append, List.mem_append] at hn; grind)), h3.frame (fun b hb => hf b (by simp [hb]) (fun hm => by simp only [List.nodup_append, List.mem_append] at hn; grind))⟩
theorem GMultiRule.fc_Write (y : GMultiRule) : FC 2 y y.Write (fun z => (⟨y.State, y.Read, z, y.Move, y.Next⟩ : GMultiRule)) := by
  intro w c Bi h
  obtain ⟨v1, v2, v3, B1, B2, B3, rfl, rfl, h1, h2, h3⟩ := h
  refine ⟨v2, _, rfl, h2.ds, fun hn => ?_, fun b hb => by simp [hb], fun w' z' hz hn hf => ?_⟩
  · simp only [List.nodup_append] at hn
    first | exact hn.1 | exact hn.2.1 | exact hn.1.1 | exact hn.1.2.1
  · exact ⟨v1, v2, v3, _, _, _, rfl, rfl, h1.frame (fun b hb => hf b (by simp [hb]) (fun hm => by simp only [List.nodup_append, List.mem_append] at hn; grind)), hz.dc, h3.frame (fun b hb => hf b (by simp [hb]) (fun hm => by simp only [List.nodup_append, List.mem_append] at hn; grind))⟩
theorem GMultiRule.fc_Move (y : GMultiRule) : FC 3 y y.Move (fun z => (⟨y.State, y.Read, y.Write, z, y.Next⟩ : GMultiRule)) := by
  intro w c Bi h
  obtain ⟨v1, v2, v3, B1, B2, B3, rfl, rfl, h1, h2, h3⟩ := h
  refine ⟨v3, _, rfl, h3.ds, fun hn => ?_, fun b hb => by simp [hb], fun w' z' hz hn hf => ?_⟩
  · simp only [List.nodup_append] at hn
    first | exact hn.1 | exact hn.2.1 | exact hn.1.1 | exact hn.1.2.1
  · exact ⟨v1, v2, v3, _, _, _, rfl, rfl, h1.frame (fun b hb => hf b (by simp [hb]) (fun hm => by simp only [List.nodup_append, List.mem_append] at hn; grind)), h2.frame (fun b hb => hf b (by simp [hb]) (fun hm => by simp only [List.nodup_append, List.mem_append] at hn; grind)), hz.dc⟩
theorem GMultiRule.fs_Next (y : GMultiRule) : FSt 4 y (fun z => (⟨y.State, y.Read, y.Write, y.Move, z⟩ : GMultiRule)) := by
  intro w c Bi h
  obtain ⟨v1, v2, v3, B1, B2, B3, rfl, rfl, h1, h2, h3⟩ := h
  exact ⟨by simp, fun k => ⟨v1, v2, v3, _, _, _, rfl, rfl, h1, h2, h3⟩⟩
theorem GMultiRule.zero {A : Nat → Prop} {w : World} : ∃ zc : List Value, (Value.agg #[.int .i64 0, .slice none 0 0, .slice none 0 0, .slice none 0 0, .int .i64 0]).cells = zc.toArray ∧ Rep.rdc A w zc (⟨0, [], [], [], 0⟩ : GMultiRule) := ⟨[.int .i64 0, .slice none 0 0, .slice none 0 0, .slice none 0 0, .int .i64 0], rfl, _, _, _, rfl, rdNil, rdNil, rdNil⟩

structure GMulti where
  Tapes : Int
  Symbols : Int
  States : Int
  Rules : (List GMultiRule)
instance : Rep GMulti where
  sz := 4
  agg := true
  rdc A w cs t := ∃ v3, cs = [.int .i64 t.Tapes, .int .i64 t.Symbols, .int .i64 t.States, v3] ∧ Rd A w v3 t.Rules
  len := by
    intro A w cs t h
    obtain ⟨v3, rfl, h3⟩ := h
    rfl
  one := by
    intro A w cs t h c hc
    obtain ⟨v3, rfl, h3⟩ := h
    simp only [List.mem_cons, List.not_mem_nil, or_false] at hc
    rcases hc with rfl | rfl | rfl | rfl
    · rfl
    · rfl
    · rfl
    · exact (Rd.sl h3).oneCell
  pos := by decide
  single h := by cases h
  frame := by
    intro A A' w w' cs t h hf
    obtain ⟨v3, rfl, h3⟩ := h
    exact ⟨v3, rfl, h3.frame hf⟩
  dc w cs t B := ∃ v3 B3, cs = [.int .i64 t.Tapes, .int .i64 t.Symbols, .int .i64 t.States, v3] ∧ B = B3 ∧ Dc w v3 t.Rules B3
  dcf := by
    intro w w' cs t B h hf
    obtain ⟨v3, B3, rfl, rfl, h3⟩ := h
    exact ⟨v3, _, rfl, rfl, h3.frame (fun b hb => hf b (by simp [hb]))⟩
  dcr := by
    intro A w cs t B h hA
    obtain ⟨v3, B3, rfl, rfl, h3⟩ := h
    exact ⟨v3, rfl, h3.rd (fun b hb => hA b (by simp [hb]))⟩
  dlt := by
    intro w cs t B h b hb
    obtain ⟨v3, B3, rfl, rfl, h3⟩ := h
    exact h3.lt b hb
  flat := false
  flt h := by cases h
theorem GMulti.rdmk {A : Nat → Prop} {w : World} {v0 : Value} {x0 : Int} {v1 : Value} {x1 : Int} {v2 : Value} {x2 : Int} {v3 : Value} {x3 : (List GMultiRule)} (h0 : Rd A w v0 x0) (h1 : Rd A w v1 x1) (h2 : Rd A w v2 x2) (h3 : Rd A w v3 x3) : Rd A w (.agg #[v0, v1, v2, v3]) (⟨x0, x1, x2, x3⟩ : GMulti) := by
  have e0 := Rd.int h0
  subst e0
  have e1 := Rd.int h1
  subst e1
  have e2 := Rd.int h2
  subst e2
  exact ⟨[_, _, _, _], rfl, v3, rfl, h3⟩
theorem GMulti.open {A : Nat → Prop} {w : World} {v : Value} {t : GMulti} (h : Rd A w v t) : ∃ v3, v = .agg #[.int .i64 t.Tapes, .int .i64 t.Symbols, .int .i64 t.States, v3] ∧ Rd A w v3 t.Rules := by
  obtain ⟨cs, e, h⟩ := h
  obtain ⟨v3, rfl, h3⟩ := h
  exact ⟨v3, e, h3⟩
theorem GMulti.opens (t : GMulti) : Opens t (fun x : Value => .agg #[.int .i64 t.Tapes, .int .i64 t.Symbols, .int .i64 t.States, x]) (fun x => [.rd x t.Rules]) := by
  intro A B w v h
  obtain ⟨v3, e, h3⟩ := GMulti.open h
  refine ⟨v3, e, ?_⟩
  intro f hf
  simp only [List.mem_cons, List.not_mem_nil, or_false] at hf
  rcases hf with rfl
  · exact ⟨⟨rfl, rfl⟩, h3⟩
theorem GMulti.at_Tapes (t : GMulti) : Part 0 t t.Tapes := by
  intro A w cs h
  obtain ⟨v3, rfl, h3⟩ := h
  refine ⟨[.int .i64 t.Tapes], ?_, rfl⟩
  intro j u hj
  match j, hj with
  | 0, hj => simpa using hj
theorem GMulti.at_Symbols (t : GMulti) : Part 1 t t.Symbols := by
  intro A w cs h
  obtain ⟨v3, rfl, h3⟩ := h
  refine ⟨[.int .i64 t.Symbols], ?_, rfl⟩
  intro j u hj
  match j, hj with
  | 0, hj => simpa using hj
theorem GMulti.at_States (t : GMulti) : Part 2 t t.States := by
  intro A w cs h
  obtain ⟨v3, rfl, h3⟩ := h
  refine ⟨[.int .i64 t.States], ?_, rfl⟩
  intro j u hj
  match j, hj with
  | 0, hj => simpa using hj
theorem GMulti.at_Rules (t : GMulti) : Part 3 t t.Rules := by
  intro A w cs h
  obtain ⟨v3, rfl, h3⟩ := h
  refine ⟨[v3], ?_, h3.cell rfl⟩
  intro j u hj
  match j, hj with
  | 0, hj => simpa using hj
theorem GMulti.nb {x0 : Int} {x1 : Int} {x2 : Int} {x3 : (List GMultiRule)} (h3 : Nb x3) : Nb (⟨x0, x1, x2, x3⟩ : GMulti) := by
  intro A w cs h
  obtain ⟨v3, rfl, r3⟩ := h
  obtain ⟨c3, e3, q3⟩ := r3
  exact ⟨v3, [], rfl, rfl, ⟨c3, e3, h3 _ _ _ q3⟩⟩
theorem GMulti.dw {w : World} {x0 : Int} {x1 : Int} {x2 : Int} {x3 : (List GMultiRule)} {v3 : Value} {C0 C1 : List Nat} (h3 : Dw w v3 x3 C0 C1) : Dw w (.agg #[.int .i64 x0, .int .i64 x1, .int .i64 x2, v3]) (⟨x0, x1, x2, x3⟩ : GMulti) C0 C1 := by
  intro hn
  obtain ⟨B, a0, nd, mem, sub⟩ := h3 hn
  exact ⟨_, ⟨[.int .i64 x0, .int .i64 x1, .int .i64 x2, v3], rfl, v3, B, rfl, rfl, a0⟩, nd, mem, sub⟩
theorem GMulti.zero {A : Nat → Prop} {w : World} : ∃ zc : List Value, (Value.agg #[.int .i64 0, .int .i64 0, .int .i64 0, .slice none 0 0]).cells = zc.toArray ∧ Rep.rdc A w zc (⟨0, 0, 0, []⟩ : GMulti) := ⟨[.int .i64 0, .int .i64 0, .int .i64 0, .slice none 0 0], rfl, _, rfl, rdNil⟩

structure GmultiPlace where
  kind : Int
  at_ : Int
  tape : Int
  count : Int
  found_0 : Int
  found_1 : Int
  found_2 : Int
  done : Int
instance : DecidableEq GmultiPlace := fun a b =>
  if h : a.kind = b.kind ∧ a.at_ = b.at_ ∧ a.tape = b.tape ∧ a.count = b.count ∧ a.found_0 = b.found_0 ∧ a.found_1 = b.found_1 ∧ a.found_2 = b.found_2 ∧ a.done = b.done then isTrue (by cases a; cases b; simp_all) else isFalse (by rintro rfl; simp at h)
instance : Rep GmultiPlace where
  sz := 8
  agg := true
  rdc A w cs t := cs = [.int .i64 t.kind, .int .i64 t.at_, .int .i64 t.tape, .int .i64 t.count, .int .i64 t.found_0, .int .i64 t.found_1, .int .i64 t.found_2, .int .i64 t.done]
  len := by
    intro A w cs t h
    obtain rfl := h
    rfl
  one := by
    intro A w cs t h c hc
    obtain rfl := h
    simp only [List.mem_cons, List.not_mem_nil, or_false] at hc
    rcases hc with rfl | rfl | rfl | rfl | rfl | rfl | rfl | rfl
    · rfl
    · rfl
    · rfl
    · rfl
    · rfl
    · rfl
    · rfl
    · rfl
  pos := by decide
  single h := by cases h
  frame := by
    intro A A' w w' cs t h hf
    obtain rfl := h
    exact rfl
  dc _ cs t B := cs = [.int .i64 t.kind, .int .i64 t.at_, .int .i64 t.tape, .int .i64 t.count, .int .i64 t.found_0, .int .i64 t.found_1, .int .i64 t.found_2, .int .i64 t.done] ∧ B = []
  dcf h _ := h
  dcr h _ := h.1
  dlt h b hb := by simp [h.2] at hb
  flat := true
  flt _ h := ⟨h, rfl⟩
theorem GmultiPlace.rdmk {A : Nat → Prop} {w : World} {v0 : Value} {x0 : Int} {v1 : Value} {x1 : Int} {v2 : Value} {x2 : Int} {v3 : Value} {x3 : Int} {v4 : Value} {x4 : Int} {v5 : Value} {x5 : Int} {v6 : Value} {x6 : Int} {v7 : Value} {x7 : Int} (h0 : Rd A w v0 x0) (h1 : Rd A w v1 x1) (h2 : Rd A w v2 x2) (h3 : Rd A w v3 x3) (h4 : Rd A w v4 x4) (h5 : Rd A w v5 x5) (h6 : Rd A w v6 x6) (h7 : Rd A w v7 x7) : Rd A w (.agg #[v0, v1, v2, v3, v4, v5, v6, v7]) (⟨x0, x1, x2, x3, x4, x5, x6, x7⟩ : GmultiPlace) := by
  have e0 := Rd.int h0
  subst e0
  have e1 := Rd.int h1
  subst e1
  have e2 := Rd.int h2
  subst e2
  have e3 := Rd.int h3
  subst e3
  have e4 := Rd.int h4
  subst e4
  have e5 := Rd.int h5
  subst e5
  have e6 := Rd.int h6
  subst e6
  have e7 := Rd.int h7
  subst e7
  exact ⟨[_, _, _, _, _, _, _, _], rfl, rfl⟩
theorem GmultiPlace.open {A : Nat → Prop} {w : World} {v : Value} {t : GmultiPlace} (h : Rd A w v t) : v = .agg #[.int .i64 t.kind, .int .i64 t.at_, .int .i64 t.tape, .int .i64 t.count, .int .i64 t.found_0, .int .i64 t.found_1, .int .i64 t.found_2, .int .i64 t.done] := by
  obtain ⟨cs, e, h⟩ := h
  subst h
  exact e
theorem GmultiPlace.opens (t : GmultiPlace) : Opens t (fun _ : Unit => .agg #[.int .i64 t.kind, .int .i64 t.at_, .int .i64 t.tape, .int .i64 t.count, .int .i64 t.found_0, .int .i64 t.found_1, .int .i64 t.found_2, .int .i64 t.done]) (fun _ => []) := by
  intro A B w v h
  exact ⟨(), GmultiPlace.open h, by simp⟩
def GmultiPlace.enc (t : GmultiPlace) : Value := .agg #[.int .i64 t.kind, .int .i64 t.at_, .int .i64 t.tape, .int .i64 t.count, .int .i64 t.found_0, .int .i64 t.found_1, .int .i64 t.found_2, .int .i64 t.done]
theorem GmultiPlace.nb {x : GmultiPlace} : Nb x := nb_flat rfl x
theorem GmultiPlace.dw {w : World} {x0 : Int} {x1 : Int} {x2 : Int} {x3 : Int} {x4 : Int} {x5 : Int} {x6 : Int} {x7 : Int} {C : List Nat} : Dw w (.agg #[.int .i64 x0, .int .i64 x1, .int .i64 x2, .int .i64 x3, .int .i64 x4, .int .i64 x5, .int .i64 x6, .int .i64 x7]) (⟨x0, x1, x2, x3, x4, x5, x6, x7⟩ : GmultiPlace) C C := fun _ => ⟨[], ⟨[.int .i64 x0, .int .i64 x1, .int .i64 x2, .int .i64 x3, .int .i64 x4, .int .i64 x5, .int .i64 x6, .int .i64 x7], rfl, rfl, rfl⟩, by simp, by simp, List.Sublist.refl _⟩
theorem GmultiPlace.zero {A : Nat → Prop} {w : World} : ∃ zc : List Value, (Value.agg #[.int .i64 0, .int .i64 0, .int .i64 0, .int .i64 0, .int .i64 0, .int .i64 0, .int .i64 0, .int .i64 0]).cells = zc.toArray ∧ Rep.rdc A w zc (⟨0, 0, 0, 0, 0, 0, 0, 0⟩ : GmultiPlace) := ⟨[.int .i64 0, .int .i64 0, .int .i64 0, .int .i64 0, .int .i64 0, .int .i64 0, .int .i64 0, .int .i64 0], rfl, rfl⟩

-- Gplaced_multiPlace: struct Gplaced_multiPlace

-- Gweaver: struct Gweaver

structure Greading where
  state : Int
  symbols_0 : Int
  symbols_1 : Int
  symbols_2 : Int
instance : DecidableEq Greading := fun a b =>
  if h : a.state = b.state ∧ a.symbols_0 = b.symbols_0 ∧ a.symbols_1 = b.symbols_1 ∧ a.symbols_2 = b.symbols_2 then isTrue (by cases a; cases b; simp_all) else isFalse (by rintro rfl; simp at h)
instance : Rep Greading where
  sz := 4
  agg := true
  rdc A w cs t := cs = [.int .i64 t.state, .int .i64 t.symbols_0, .int .i64 t.symbols_1, .int .i64 t.symbols_2]
  len := by
    intro A w cs t h
    obtain rfl := h
    rfl
  one := by
    intro A w cs t h c hc
    obtain rfl := h
    simp only [List.mem_cons, List.not_mem_nil, or_false] at hc
    rcases hc with rfl | rfl | rfl | rfl
    · rfl
    · rfl
    · rfl
    · rfl
  pos := by decide
  single h := by cases h
  frame := by
    intro A A' w w' cs t h hf
    obtain rfl := h
    exact rfl
  dc _ cs t B := cs = [.int .i64 t.state, .int .i64 t.symbols_0, .int .i64 t.symbols_1, .int .i64 t.symbols_2] ∧ B = []
  dcf h _ := h
  dcr h _ := h.1
  dlt h b hb := by simp [h.2] at hb
  flat := true
  flt _ h := ⟨h, rfl⟩
theorem Greading.rdmk {A : Nat → Prop} {w : World} {v0 : Value} {x0 : Int} {v1 : Value} {x1 : Int} {v2 : Value} {x2 : Int} {v3 : Value} {x3 : Int} (h0 : Rd A w v0 x0) (h1 : Rd A w v1 x1) (h2 : Rd A w v2 x2) (h3 : Rd A w v3 x3) : Rd A w (.agg #[v0, v1, v2, v3]) (⟨x0, x1, x2, x3⟩ : Greading) := by
  have e0 := Rd.int h0
  subst e0
  have e1 := Rd.int h1
  subst e1
  have e2 := Rd.int h2
  subst e2
  have e3 := Rd.int h3
  subst e3
  exact ⟨[_, _, _, _], rfl, rfl⟩
theorem Greading.open {A : Nat → Prop} {w : World} {v : Value} {t : Greading} (h : Rd A w v t) : v = .agg #[.int .i64 t.state, .int .i64 t.symbols_0, .int .i64 t.symbols_1, .int .i64 t.symbols_2] := by
  obtain ⟨cs, e, h⟩ := h
  subst h
  exact e
theorem Greading.opens (t : Greading) : Opens t (fun _ : Unit => .agg #[.int .i64 t.state, .int .i64 t.symbols_0, .int .i64 t.symbols_1, .int .i64 t.symbols_2]) (fun _ => []) := by
  intro A B w v h
  exact ⟨(), Greading.open h, by simp⟩
def Greading.enc (t : Greading) : Value := .agg #[.int .i64 t.state, .int .i64 t.symbols_0, .int .i64 t.symbols_1, .int .i64 t.symbols_2]
theorem Greading.nb {x : Greading} : Nb x := nb_flat rfl x
theorem Greading.dw {w : World} {x0 : Int} {x1 : Int} {x2 : Int} {x3 : Int} {C : List Nat} : Dw w (.agg #[.int .i64 x0, .int .i64 x1, .int .i64 x2, .int .i64 x3]) (⟨x0, x1, x2, x3⟩ : Greading) C C := fun _ => ⟨[], ⟨[.int .i64 x0, .int .i64 x1, .int .i64 x2, .int .i64 x3], rfl, rfl, rfl⟩, by simp, by simp, List.Sublist.refl _⟩
theorem Greading.zero {A : Nat → Prop} {w : World} : ∃ zc : List Value, (Value.agg #[.int .i64 0, .int .i64 0, .int .i64 0, .int .i64 0]).cells = zc.toArray ∧ Rep.rdc A w zc (⟨0, 0, 0, 0⟩ : Greading) := ⟨[.int .i64 0, .int .i64 0, .int .i64 0, .int .i64 0], rfl, rfl⟩

structure Gaction_multiPlace where
  write : Int
  move : Int
  next_kind : Int
  next_at_ : Int
  next_tape : Int
  next_count : Int
  next_found_0 : Int
  next_found_1 : Int
  next_found_2 : Int
  next_done : Int
  none : Bool
instance : DecidableEq Gaction_multiPlace := fun a b =>
  if h : a.write = b.write ∧ a.move = b.move ∧ a.next_kind = b.next_kind ∧ a.next_at_ = b.next_at_ ∧ a.next_tape = b.next_tape ∧ a.next_count = b.next_count ∧ a.next_found_0 = b.next_found_0 ∧ a.next_found_1 = b.next_found_1 ∧ a.next_found_2 = b.next_found_2 ∧ a.next_done = b.next_done ∧ a.none = b.none then isTrue (by cases a; cases b; simp_all) else isFalse (by rintro rfl; simp at h)
instance : Rep Gaction_multiPlace where
  sz := 11
  agg := true
  rdc A w cs t := cs = [.int .i64 t.write, .int .i64 t.move, .int .i64 t.next_kind, .int .i64 t.next_at_, .int .i64 t.next_tape, .int .i64 t.next_count, .int .i64 t.next_found_0, .int .i64 t.next_found_1, .int .i64 t.next_found_2, .int .i64 t.next_done, .bool t.none]
  len := by
    intro A w cs t h
    obtain rfl := h
    rfl
  one := by
    intro A w cs t h c hc
    obtain rfl := h
    simp only [List.mem_cons, List.not_mem_nil, or_false] at hc
    rcases hc with rfl | rfl | rfl | rfl | rfl | rfl | rfl | rfl | rfl | rfl | rfl
    · rfl
    · rfl
    · rfl
    · rfl
    · rfl
    · rfl
    · rfl
    · rfl
    · rfl
    · rfl
    · rfl
  pos := by decide
  single h := by cases h
  frame := by
    intro A A' w w' cs t h hf
    obtain rfl := h
    exact rfl
  dc _ cs t B := cs = [.int .i64 t.write, .int .i64 t.move, .int .i64 t.next_kind, .int .i64 t.next_at_, .int .i64 t.next_tape, .int .i64 t.next_count, .int .i64 t.next_found_0, .int .i64 t.next_found_1, .int .i64 t.next_found_2, .int .i64 t.next_done, .bool t.none] ∧ B = []
  dcf h _ := h
  dcr h _ := h.1
  dlt h b hb := by simp [h.2] at hb
  flat := true
  flt _ h := ⟨h, rfl⟩
theorem Gaction_multiPlace.rdmk {A : Nat → Prop} {w : World} {v0 : Value} {x0 : Int} {v1 : Value} {x1 : Int} {v2 : Value} {x2 : Int} {v3 : Value} {x3 : Int} {v4 : Value} {x4 : Int} {v5 : Value} {x5 : Int} {v6 : Value} {x6 : Int} {v7 : Value} {x7 : Int} {v8 : Value} {x8 : Int} {v9 : Value} {x9 : Int} {v10 : Value} {x10 : Bool} (h0 : Rd A w v0 x0) (h1 : Rd A w v1 x1) (h2 : Rd A w v2 x2) (h3 : Rd A w v3 x3) (h4 : Rd A w v4 x4) (h5 : Rd A w v5 x5) (h6 : Rd A w v6 x6) (h7 : Rd A w v7 x7) (h8 : Rd A w v8 x8) (h9 : Rd A w v9 x9) (h10 : Rd A w v10 x10) : Rd A w (.agg #[v0, v1, v2, v3, v4, v5, v6, v7, v8, v9, v10]) (⟨x0, x1, x2, x3, x4, x5, x6, x7, x8, x9, x10⟩ : Gaction_multiPlace) := by
  have e0 := Rd.int h0
  subst e0
  have e1 := Rd.int h1
  subst e1
  have e2 := Rd.int h2
  subst e2
  have e3 := Rd.int h3
  subst e3
  have e4 := Rd.int h4
  subst e4
  have e5 := Rd.int h5
  subst e5
  have e6 := Rd.int h6
  subst e6
  have e7 := Rd.int h7
  subst e7
  have e8 := Rd.int h8
  subst e8
  have e9 := Rd.int h9
  subst e9
  have e10 := Rd.bool h10
  subst e10
  exact ⟨[_, _, _, _, _, _, _, _, _, _, _], rfl, rfl⟩
theorem Gaction_multiPlace.open {A : Nat → Prop} {w : World} {v : Value} {t : Gaction_multiPlace} (h : Rd A w v t) : v = .agg #[.int .i64 t.write, .int .i64 t.move, .int .i64 t.next_kind, .int .i64 t.next_at_, .int .i64 t.next_tape, .int .i64 t.next_count, .int .i64 t.next_found_0, .int .i64 t.next_found_1, .int .i64 t.next_found_2, .int .i64 t.next_done, .bool t.none] := by
  obtain ⟨cs, e, h⟩ := h
  subst h
  exact e
theorem Gaction_multiPlace.opens (t : Gaction_multiPlace) : Opens t (fun _ : Unit => .agg #[.int .i64 t.write, .int .i64 t.move, .int .i64 t.next_kind, .int .i64 t.next_at_, .int .i64 t.next_tape, .int .i64 t.next_count, .int .i64 t.next_found_0, .int .i64 t.next_found_1, .int .i64 t.next_found_2, .int .i64 t.next_done, .bool t.none]) (fun _ => []) := by
  intro A B w v h
  exact ⟨(), Gaction_multiPlace.open h, by simp⟩
def Gaction_multiPlace.enc (t : Gaction_multiPlace) : Value := .agg #[.int .i64 t.write, .int .i64 t.move, .int .i64 t.next_kind, .int .i64 t.next_at_, .int .i64 t.next_tape, .int .i64 t.next_count, .int .i64 t.next_found_0, .int .i64 t.next_found_1, .int .i64 t.next_found_2, .int .i64 t.next_done, .bool t.none]
theorem Gaction_multiPlace.nb {x : Gaction_multiPlace} : Nb x := nb_flat rfl x
theorem Gaction_multiPlace.dw {w : World} {x0 : Int} {x1 : Int} {x2 : Int} {x3 : Int} {x4 : Int} {x5 : Int} {x6 : Int} {x7 : Int} {x8 : Int} {x9 : Int} {x10 : Bool} {C : List Nat} : Dw w (.agg #[.int .i64 x0, .int .i64 x1, .int .i64 x2, .int .i64 x3, .int .i64 x4, .int .i64 x5, .int .i64 x6, .int .i64 x7, .int .i64 x8, .int .i64 x9, .bool x10]) (⟨x0, x1, x2, x3, x4, x5, x6, x7, x8, x9, x10⟩ : Gaction_multiPlace) C C := fun _ => ⟨[], ⟨[.int .i64 x0, .int .i64 x1, .int .i64 x2, .int .i64 x3, .int .i64 x4, .int .i64 x5, .int .i64 x6, .int .i64 x7, .int .i64 x8, .int .i64 x9, .bool x10], rfl, rfl, rfl⟩, by simp, by simp, List.Sublist.refl _⟩
theorem Gaction_multiPlace.zero {A : Nat → Prop} {w : World} : ∃ zc : List Value, (Value.agg #[.int .i64 0, .int .i64 0, .int .i64 0, .int .i64 0, .int .i64 0, .int .i64 0, .int .i64 0, .int .i64 0, .int .i64 0, .int .i64 0, .bool false]).cells = zc.toArray ∧ Rep.rdc A w zc (⟨0, 0, 0, 0, 0, 0, 0, 0, 0, 0, false⟩ : Gaction_multiPlace) := ⟨[.int .i64 0, .int .i64 0, .int .i64 0, .int .i64 0, .int .i64 0, .int .i64 0, .int .i64 0, .int .i64 0, .int .i64 0, .int .i64 0, .bool false], rfl, rfl⟩

-- Gl13Maker: struct Gl13Maker

structure Gl13Move where
  ok : Bool
  write : Int
  move : Int
  next : (List Int)
instance : DecidableEq Gl13Move := fun a b =>
  if h : a.ok = b.ok ∧ a.write = b.write ∧ a.move = b.move ∧ a.next = b.next then isTrue (by cases a; cases b; simp_all) else isFalse (by rintro rfl; simp at h)
instance : Rep Gl13Move where
  sz := 4
  agg := true
  rdc A w cs t := ∃ v3, cs = [.bool t.ok, .int .i64 t.write, .int .i64 t.move, v3] ∧ Rd A w v3 t.next
  len := by
    intro A w cs t h
    obtain ⟨v3, rfl, h3⟩ := h
    rfl
  one := by
    intro A w cs t h c hc
    obtain ⟨v3, rfl, h3⟩ := h
    simp only [List.mem_cons, List.not_mem_nil, or_false] at hc
    rcases hc with rfl | rfl | rfl | rfl
    · rfl
    · rfl
    · rfl
    · exact (Rd.sl h3).oneCell
  pos := by decide
  single h := by cases h
  frame := by
    intro A A' w w' cs t h hf
    obtain ⟨v3, rfl, h3⟩ := h
    exact ⟨v3, rfl, h3.frame hf⟩
  dc w cs t B := ∃ v3 B3, cs = [.bool t.ok, .int .i64 t.write, .int .i64 t.move, v3] ∧ B = B3 ∧ Dc w v3 t.next B3
  dcf := by
    intro w w' cs t B h hf
    obtain ⟨v3, B3, rfl, rfl, h3⟩ := h
    exact ⟨v3, _, rfl, rfl, h3.frame (fun b hb => hf b (by simp [hb]))⟩
  dcr := by
    intro A w cs t B h hA
    obtain ⟨v3, B3, rfl, rfl, h3⟩ := h
    exact ⟨v3, rfl, h3.rd (fun b hb => hA b (by simp [hb]))⟩
  dlt := by
    intro w cs t B h b hb
    obtain ⟨v3, B3, rfl, rfl, h3⟩ := h
    exact h3.lt b hb
  flat := false
  flt h := by cases h
theorem Gl13Move.rdmk {A : Nat → Prop} {w : World} {v0 : Value} {x0 : Bool} {v1 : Value} {x1 : Int} {v2 : Value} {x2 : Int} {v3 : Value} {x3 : (List Int)} (h0 : Rd A w v0 x0) (h1 : Rd A w v1 x1) (h2 : Rd A w v2 x2) (h3 : Rd A w v3 x3) : Rd A w (.agg #[v0, v1, v2, v3]) (⟨x0, x1, x2, x3⟩ : Gl13Move) := by
  have e0 := Rd.bool h0
  subst e0
  have e1 := Rd.int h1
  subst e1
  have e2 := Rd.int h2
  subst e2
  exact ⟨[_, _, _, _], rfl, v3, rfl, h3⟩
theorem Gl13Move.open {A : Nat → Prop} {w : World} {v : Value} {t : Gl13Move} (h : Rd A w v t) : ∃ v3, v = .agg #[.bool t.ok, .int .i64 t.write, .int .i64 t.move, v3] ∧ Rd A w v3 t.next := by
  obtain ⟨cs, e, h⟩ := h
  obtain ⟨v3, rfl, h3⟩ := h
  exact ⟨v3, e, h3⟩
theorem Gl13Move.opens (t : Gl13Move) : Opens t (fun x : Value => .agg #[.bool t.ok, .int .i64 t.write, .int .i64 t.move, x]) (fun x => [.rd x t.next]) := by
  intro A B w v h
  obtain ⟨v3, e, h3⟩ := Gl13Move.open h
  refine ⟨v3, e, ?_⟩
  intro f hf
  simp only [List.mem_cons, List.not_mem_nil, or_false] at hf
  rcases hf with rfl
  · exact ⟨⟨rfl, rfl⟩, h3⟩
theorem Gl13Move.nb {x0 : Bool} {x1 : Int} {x2 : Int} {x3 : (List Int)} (h3 : Nb x3) : Nb (⟨x0, x1, x2, x3⟩ : Gl13Move) := by
  intro A w cs h
  obtain ⟨v3, rfl, r3⟩ := h
  obtain ⟨c3, e3, q3⟩ := r3
  exact ⟨v3, [], rfl, rfl, ⟨c3, e3, h3 _ _ _ q3⟩⟩
theorem Gl13Move.dw {w : World} {x0 : Bool} {x1 : Int} {x2 : Int} {x3 : (List Int)} {v3 : Value} {C0 C1 : List Nat} (h3 : Dw w v3 x3 C0 C1) : Dw w (.agg #[.bool x0, .int .i64 x1, .int .i64 x2, v3]) (⟨x0, x1, x2, x3⟩ : Gl13Move) C0 C1 := by
  intro hn
  obtain ⟨B, a0, nd, mem, sub⟩ := h3 hn
  exact ⟨_, ⟨[.bool x0, .int .i64 x1, .int .i64 x2, v3], rfl, v3, B, rfl, rfl, a0⟩, nd, mem, sub⟩
theorem Gl13Move.zero {A : Nat → Prop} {w : World} : ∃ zc : List Value, (Value.agg #[.bool false, .int .i64 0, .int .i64 0, .slice none 0 0]).cells = zc.toArray ∧ Rep.rdc A w zc (⟨false, 0, 0, []⟩ : Gl13Move) := ⟨[.bool false, .int .i64 0, .int .i64 0, .slice none 0 0], rfl, _, rfl, rdNil⟩

end Go.Fn
