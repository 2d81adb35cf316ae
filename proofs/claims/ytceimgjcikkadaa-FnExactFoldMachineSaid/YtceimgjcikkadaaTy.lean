/-
  The structures of the program, as plain Lean data, and how they are laid in memory. No condition.
-/
import Derived.Test.YtceimgjcikkadaaPure
namespace Go.Fn
open Go Go.Tc

structure GRule where
  Write : Int
  Move : Int
  Next : Int
instance : DecidableEq GRule := fun a b =>
  if h : a.Write = b.Write ∧ a.Move = b.Move ∧ a.Next = b.Next then isTrue (by cases a; cases b; simp_all) else isFalse (by rintro rfl; simp at h)
instance : Rep GRule where
  sz := 3
  agg := true
  rdc A w cs t := cs = [.int .i64 t.Write, .int .i64 t.Move, .int .i64 t.Next]
  len := by
    intro A w cs t h
    obtain rfl := h
    rfl
  one := by
    intro A w cs t h c hc
    obtain rfl := h
    simp only [List.mem_cons, List.not_mem_nil, or_false] at hc
    rcases hc with rfl | rfl | rfl
    · rfl
    · rfl
    · rfl
  pos := by decide
  single h := by cases h
  frame := by
    intro A A' w w' cs t h hf
    obtain rfl := h
    exact rfl
  dc _ cs t B := cs = [.int .i64 t.Write, .int .i64 t.Move, .int .i64 t.Next] ∧ B = []
  dcf h _ := h
  dcr h _ := h.1
  dlt h b hb := by simp [h.2] at hb
  flat := true
  flt _ h := ⟨h, rfl⟩
theorem GRule.rdmk {A : Nat → Prop} {w : World} {v0 : Value} {x0 : Int} {v1 : Value} {x1 : Int} {v2 : Value} {x2 : Int} (h0 : Rd A w v0 x0) (h1 : Rd A w v1 x1) (h2 : Rd A w v2 x2) : Rd A w (.agg #[v0, v1, v2]) (⟨x0, x1, x2⟩ : GRule) := by
  have e0 := Rd.int h0
  subst e0
  have e1 := Rd.int h1
  subst e1
  have e2 := Rd.int h2
  subst e2
  exact ⟨[_, _, _], rfl, rfl⟩
theorem GRule.open {A : Nat → Prop} {w : World} {v : Value} {t : GRule} (h : Rd A w v t) : v = .agg #[.int .i64 t.Write, .int .i64 t.Move, .int .i64 t.Next] := by
  obtain ⟨cs, e, h⟩ := h
  subst h
  exact e
theorem GRule.opens (t : GRule) : Opens t (fun _ : Unit => .agg #[.int .i64 t.Write, .int .i64 t.Move, .int .i64 t.Next]) (fun _ => []) := by
  intro A B w v h
  exact ⟨(), GRule.open h, by simp⟩
theorem GRule.at_Write (t : GRule) : Part 0 t t.Write := by
  intro A w cs h
  obtain rfl := h
  refine ⟨[.int .i64 t.Write], ?_, rfl⟩
  intro j u hj
  match j, hj with
  | 0, hj => simpa using hj
theorem GRule.at_Move (t : GRule) : Part 1 t t.Move := by
  intro A w cs h
  obtain rfl := h
  refine ⟨[.int .i64 t.Move], ?_, rfl⟩
  intro j u hj
  match j, hj with
  | 0, hj => simpa using hj
theorem GRule.at_Next (t : GRule) : Part 2 t t.Next := by
  intro A w cs h
  obtain rfl := h
  refine ⟨[.int .i64 t.Next], ?_, rfl⟩
  intro j u hj
  match j, hj with
  | 0, hj => simpa using hj
def GRule.enc (t : GRule) : Value := .agg #[.int .i64 t.Write, .int .i64 t.Move, .int .i64 t.Next]
theorem GRule.nb {x : GRule} : Nb x := nb_flat rfl x
theorem GRule.dw {w : World} {x0 : Int} {x1 : Int} {x2 : Int} {C : List Nat} : Dw w (.agg #[.int .i64 x0, .int .i64 x1, .int .i64 x2]) (⟨x0, x1, x2⟩ : GRule) C C := fun _ => ⟨[], ⟨[.int .i64 x0, .int .i64 x1, .int .i64 x2], rfl, rfl, rfl⟩, by simp, by simp, List.Sublist.refl _⟩
theorem GRule.fs_Write (y : GRule) : FSt 0 y (fun z => (⟨z, y.Move, y.Next⟩ : GRule)) := by
  intro w c Bi h
  obtain ⟨rfl, rfl⟩ := h
  exact ⟨by simp, fun k => ⟨rfl, rfl⟩⟩
theorem GRule.fs_Move (y : GRule) : FSt 1 y (fun z => (⟨y.Write, z, y.Next⟩ : GRule)) := by
  intro w c Bi h
  obtain ⟨rfl, rfl⟩ := h
  exact ⟨by simp, fun k => ⟨rfl, rfl⟩⟩
theorem GRule.fs_Next (y : GRule) : FSt 2 y (fun z => (⟨y.Write, y.Move, z⟩ : GRule)) := by
  intro w c Bi h
  obtain ⟨rfl, rfl⟩ := h
  exact ⟨by simp, fun k => ⟨rfl, rfl⟩⟩
theorem GRule.zero {A : Nat → Prop} {w : World} : ∃ zc : List Value, (Value.agg #[.int .i64 0, .int .i64 0, .int .i64 0]).cells = zc.toArray ∧ Rep.rdc A w zc (⟨0, 0, 0⟩ : GRule) := ⟨[.int .i64 0, .int .i64 0, .int .i64 0], rfl, rfl⟩

structure GMachine where
  Symbols : Int
  States : Int
  Rules : (List GRule)
instance : Rep GMachine where
  sz := 3
  agg := true
  rdc A w cs t := ∃ v2, cs = [.int .i64 t.Symbols, .int .i64 t.States, v2] ∧ Rd A w v2 t.Rules
  len := by
    intro A w cs t h
    obtain ⟨v2, rfl, h2⟩ := h
    rfl
  one := by
    intro A w cs t h c hc
    obtain ⟨v2, rfl, h2⟩ := h
    simp only [List.mem_cons, List.not_mem_nil, or_false] at hc
    rcases hc with rfl | rfl | rfl
    · rfl
    · rfl
    · exact (Rd.sl h2).oneCell
  pos := by decide
  single h := by cases h
  frame := by
    intro A A' w w' cs t h hf
    obtain ⟨v2, rfl, h2⟩ := h
    exact ⟨v2, rfl, h2.frame hf⟩
  dc w cs t B := ∃ v2 B2, cs = [.int .i64 t.Symbols, .int .i64 t.States, v2] ∧ B = B2 ∧ Dc w v2 t.Rules B2
  dcf := by
    intro w w' cs t B h hf
    obtain ⟨v2, B2, rfl, rfl, h2⟩ := h
    exact ⟨v2, _, rfl, rfl, h2.frame (fun b hb => hf b (by simp [hb]))⟩
  dcr := by
    intro A w cs t B h hA
    obtain ⟨v2, B2, rfl, rfl, h2⟩ := h
    exact ⟨v2, rfl, h2.rd (fun b hb => hA b (by simp [hb]))⟩
  dlt := by
    intro w cs t B h b hb
    obtain ⟨v2, B2, rfl, rfl, h2⟩ := h
    exact h2.lt b hb
  flat := false
  flt h := by cases h
theorem GMachine.rdmk {A : Nat → Prop} {w : World} {v0 : Value} {x0 : Int} {v1 : Value} {x1 : Int} {v2 : Value} {x2 : (List GRule)} (h0 : Rd A w v0 x0) (h1 : Rd A w v1 x1) (h2 : Rd A w v2 x2) : Rd A w (.agg #[v0, v1, v2]) (⟨x0, x1, x2⟩ : GMachine) := by
  have e0 := Rd.int h0
  subst e0
  have e1 := Rd.int h1
  subst e1
  exact ⟨[_, _, _], rfl, v2, rfl, h2⟩
theorem GMachine.open {A : Nat → Prop} {w : World} {v : Value} {t : GMachine} (h : Rd A w v t) : ∃ v2, v = .agg #[.int .i64 t.Symbols, .int .i64 t.States, v2] ∧ Rd A w v2 t.Rules := by
  obtain ⟨cs, e, h⟩ := h
  obtain ⟨v2, rfl, h2⟩ := h
  exact ⟨v2, e, h2⟩
theorem GMachine.opens (t : GMachine) : Opens t (fun x : Value => .agg #[.int .i64 t.Symbols, .int .i64 t.States, x]) (fun x => [.rd x t.Rules]) := by
  intro A B w v h
  obtain ⟨v2, e, h2⟩ := GMachine.open h
  refine ⟨v2, e, ?_⟩
  intro f hf
  simp only [List.mem_cons, List.not_mem_nil, or_false] at hf
  rcases hf with rfl
  · exact ⟨⟨rfl, rfl⟩, h2⟩
theorem GMachine.at_Symbols (t : GMachine) : Part 0 t t.Symbols := by
  intro A w cs h
  obtain ⟨v2, rfl, h2⟩ := h
  refine ⟨[.int .i64 t.Symbols], ?_, rfl⟩
  intro j u hj
  match j, hj with
  | 0, hj => simpa using hj
theorem GMachine.at_States (t : GMachine) : Part 1 t t.States := by
  intro A w cs h
  obtain ⟨v2, rfl, h2⟩ := h
  refine ⟨[.int .i64 t.States], ?_, rfl⟩
  intro j u hj
  match j, hj with
  | 0, hj => simpa using hj
theorem GMachine.at_Rules (t : GMachine) : Part 2 t t.Rules := by
  intro A w cs h
  obtain ⟨v2, rfl, h2⟩ := h
  refine ⟨[v2], ?_, h2.cell rfl⟩
  intro j u hj
  match j, hj with
  | 0, hj => simpa using hj
theorem GMachine.nb {x0 : Int} {x1 : Int} {x2 : (List GRule)} (h2 : Nb x2) : Nb (⟨x0, x1, x2⟩ : GMachine) := by
  intro A w cs h
  obtain ⟨v2, rfl, r2⟩ := h
  obtain ⟨c2, e2, q2⟩ := r2
  exact ⟨v2, [], rfl, rfl, ⟨c2, e2, h2 _ _ _ q2⟩⟩
theorem GMachine.dw {w : World} {x0 : Int} {x1 : Int} {x2 : (List GRule)} {v2 : Value} {C0 C1 : List Nat} (h2 : Dw w v2 x2 C0 C1) : Dw w (.agg #[.int .i64 x0, .int .i64 x1, v2]) (⟨x0, x1, x2⟩ : GMachine) C0 C1 := by
  intro hn
  obtain ⟨B, a0, nd, mem, sub⟩ := h2 hn
  exact ⟨_, ⟨[.int .i64 x0, .int .i64 x1, v2], rfl, v2, B, rfl, rfl, a0⟩, nd, mem, sub⟩
theorem GMachine.fs_Symbols (y : GMachine) : FSt 0 y (fun z => (⟨z, y.States, y.Rules⟩ : GMachine)) := by
  intro w c Bi h
  obtain ⟨v2, B2, rfl, rfl, h2⟩ := h
  exact ⟨by simp, fun k => ⟨v2, _, rfl, rfl, h2⟩⟩
theorem GMachine.fs_States (y : GMachine) : FSt 1 y (fun z => (⟨y.Symbols, z, y.Rules⟩ : GMachine)) := by
  intro w c Bi h
  obtain ⟨v2, B2, rfl, rfl, h2⟩ := h
  exact ⟨by simp, fun k => ⟨v2, _, rfl, rfl, h2⟩⟩
theorem GMachine.fc_Rules (y : GMachine) : FC 2 y y.Rules (fun z => (⟨y.Symbols, y.States, z⟩ : GMachine)) := by
  intro w c Bi h
  obtain ⟨v2, B2, rfl, rfl, h2⟩ := h
  refine ⟨v2, _, rfl, h2.ds, fun hn => ?_, fun b hb => hb, fun w' z' hz hn hf => ?_⟩
  · exact hn
  · exact ⟨v2, _, rfl, rfl, hz.dc⟩
theorem GMachine.zero {A : Nat → Prop} {w : World} : ∃ zc : List Value, (Value.agg #[.int .i64 0, .int .i64 0, .slice none 0 0]).cells = zc.toArray ∧ Rep.rdc A w zc (⟨0, 0, []⟩ : GMachine) := ⟨[.int .i64 0, .int .i64 0, .slice none 0 0], rfl, _, rfl, rdNil⟩

structure GConfig where
  State : Int
  Left : (List Int)
  Right : (List Int)
instance : DecidableEq GConfig := fun a b =>
  if h : a.State = b.State ∧ a.Left = b.Left ∧ a.Right = b.Right then isTrue (by cases a; cases b; simp_all) else isFalse (by rintro rfl; simp at h)
instance : Rep GConfig where
  sz := 3
  agg := true
  rdc A w cs t := ∃ v1 v2, cs = [.int .i64 t.State, v1, v2] ∧ Rd A w v1 t.Left ∧ Rd A w v2 t.Right
  len := by
    intro A w cs t h
    obtain ⟨v1, v2, rfl, h1, h2⟩ := h
    rfl
  one := by
    intro A w cs t h c hc
    obtain ⟨v1, v2, rfl, h1, h2⟩ := h
    simp only [List.mem_cons, List.not_mem_nil, or_false] at hc
    rcases hc with rfl | rfl | rfl
    · rfl
    · exact (Rd.sl h1).oneCell
    · exact (Rd.sl h2).oneCell
  pos := by decide
  single h := by cases h
  frame := by
    intro A A' w w' cs t h hf
    obtain ⟨v1, v2, rfl, h1, h2⟩ := h
    exact ⟨v1, v2, rfl, h1.frame hf, h2.frame hf⟩
  dc w cs t B := ∃ v1 v2 B1 B2, cs = [.int .i64 t.State, v1, v2] ∧ B = B1 ++ B2 ∧ Dc w v1 t.Left B1 ∧ Dc w v2 t.Right B2
  dcf := by
    intro w w' cs t B h hf
    obtain ⟨v1, v2, B1, B2, rfl, rfl, h1, h2⟩ := h
    exact ⟨v1, v2, _, _, rfl, rfl, h1.frame (fun b hb => hf b (by simp [hb])), h2.frame (fun b hb => hf b (by simp [hb]))⟩
  dcr := by
    intro A w cs t B h hA
    obtain ⟨v1, v2, B1, B2, rfl, rfl, h1, h2⟩ := h
    exact ⟨v1, v2, rfl, h1.rd (fun b hb => hA b (by simp [hb])), h2.rd (fun b hb => hA b (by simp [hb]))⟩
  dlt := by
    intro w cs t B h b hb
    obtain ⟨v1, v2, B1, B2, rfl, rfl, h1, h2⟩ := h
    simp only [List.append_assoc, List.mem_append] at hb
    rcases hb with hb | hb
    · exact h1.lt b hb
    · exact h2.lt b hb
  flat := false
  flt h := by cases h
theorem GConfig.rdmk {A : Nat → Prop} {w : World} {v0 : Value} {x0 : Int} {v1 : Value} {x1 : (List Int)} {v2 : Value} {x2 : (List Int)} (h0 : Rd A w v0 x0) (h1 : Rd A w v1 x1) (h2 : Rd A w v2 x2) : Rd A w (.agg #[v0, v1, v2]) (⟨x0, x1, x2⟩ : GConfig) := by
  have e0 := Rd.int h0
  subst e0
  exact ⟨[_, _, _], rfl, v1, v2, rfl, h1, h2⟩
theorem GConfig.open {A : Nat → Prop} {w : World} {v : Value} {t : GConfig} (h : Rd A w v t) : ∃ v1 v2, v = .agg #[.int .i64 t.State, v1, v2] ∧ Rd A w v1 t.Left ∧ Rd A w v2 t.Right := by
  obtain ⟨cs, e, h⟩ := h
  obtain ⟨v1, v2, rfl, h1, h2⟩ := h
  exact ⟨v1, v2, e, h1, h2⟩
theorem GConfig.opens (t : GConfig) : Opens t (fun x : Value × Value => .agg #[.int .i64 t.State, x.1, x.2]) (fun x => [.rd x.1 t.Left, .rd x.2 t.Right]) := by
  intro A B w v h
  obtain ⟨v1, v2, e, h1, h2⟩ := GConfig.open h
  refine ⟨(v1, v2), e, ?_⟩
  intro f hf
  simp only [List.mem_cons, List.not_mem_nil, or_false] at hf
  rcases hf with rfl | rfl
  · exact ⟨⟨rfl, rfl⟩, h1⟩
  · exact ⟨⟨rfl, rfl⟩, h2⟩
theorem GConfig.at_State (t : GConfig) : Part 0 t t.State := by
  intro A w cs h
  obtain ⟨v1, v2, rfl, h1, h2⟩ := h
  refine ⟨[.int .i64 t.State], ?_, rfl⟩
  intro j u hj
  match j, hj with
  | 0, hj => simpa using hj
theorem GConfig.at_Left (t : GConfig) : Part 1 t t.Left := by
  intro A w cs h
  obtain ⟨v1, v2, rfl, h1, h2⟩ := h
  refine ⟨[v1], ?_, h1.cell rfl⟩
  intro j u hj
  match j, hj with
  | 0, hj => simpa using hj
theorem GConfig.at_Right (t : GConfig) : Part 2 t t.Right := by
  intro A w cs h
  obtain ⟨v1, v2, rfl, h1, h2⟩ := h
  refine ⟨[v2], ?_, h2.cell rfl⟩
  intro j u hj
  match j, hj with
  | 0, hj => simpa using hj
theorem GConfig.nb {x0 : Int} {x1 : (List Int)} {x2 : (List Int)} (h1 : Nb x1) (h2 : Nb x2) : Nb (⟨x0, x1, x2⟩ : GConfig) := by
  intro A w cs h
  obtain ⟨v1, v2, rfl, r1, r2⟩ := h
  obtain ⟨c1, e1, q1⟩ := r1
  obtain ⟨c2, e2, q2⟩ := r2
  exact ⟨v1, v2, [], [], rfl, rfl, ⟨c1, e1, h1 _ _ _ q1⟩, ⟨c2, e2, h2 _ _ _ q2⟩⟩
theorem GConfig.dw {w : World} {x0 : Int} {x1 : (List Int)} {x2 : (List Int)} {v1 : Value} {v2 : Value} {C0 C1 C2 : List Nat} (h1 : Dw w v1 x1 C0 C1) (h2 : Dw w v2 x2 C1 C2) : Dw w (.agg #[.int .i64 x0, v1, v2]) (⟨x0, x1, x2⟩ : GConfig) C0 C2 := by
  intro hn
  obtain ⟨B1, B2, a0, a1, nd, mem, sub⟩ := h1.two h2 hn
  exact ⟨_, ⟨[.int .i64 x0, v1, v2], rfl, v1, v2, B1, B2, rfl, rfl, a0, a1⟩, nd, mem, sub⟩
theorem GConfig.fs_State (y : GConfig) : FSt 0 y (fun z => (⟨z, y.Left, y.Right⟩ : GConfig)) := by
  intro w c Bi h
  obtain ⟨v1, v2, B1, B2, rfl, rfl, h1, h2⟩ := h
  exact ⟨by simp, fun k => ⟨v1, v2, _, _, rfl, rfl, h1, h2⟩⟩
theorem GConfig.fc_Left (y : GConfig) : FC 1 y y.Left (fun z => (⟨y.State, z, y.Right⟩ : GConfig)) := by
  intro w c Bi h
  obtain ⟨v1, v2, B1, B2, rfl, rfl, h1, h2⟩ := h
  refine ⟨v1, _, rfl, h1.ds, fun hn => ?_, fun b hb => by simp [hb], fun w' z' hz hn hf => ?_⟩
  · simp only [List.nodup_append] at hn
    first | exact hn.1 | exact hn.2.1 | exact hn.1.1 | exact hn.1.2.1
  · exact ⟨v1, v2, _, _, rfl, rfl, hz.dc, h2.frame (fun b hb => hf b (by simp [hb]) (fun hm => by simp only [List.nodup_append, List.mem_append] at hn; grind))⟩
theorem GConfig.fc_Right (y : GConfig) : FC 2 y y.Right (fun z => (⟨y.State, y.Left, z⟩ : GConfig)) := by
  intro w c Bi h
  obtain ⟨v1, v2, B1, B2, rfl, rfl, h1, h2⟩ := h
  refine ⟨v2, _, rfl, h2.ds, fun hn => ?_, fun b hb => by simp [hb], fun w' z' hz hn hf => ?_⟩
  · simp only [List.nodup_append] at hn
    first | exact hn.1 | exact hn.2.1 | exact hn.1.1 | exact hn.1.2.1
  · exact ⟨v1, v2, _, _, rfl, rfl, h1.frame (fun b hb => hf b (by simp [hb]) (fun hm => by simp only [List.nodup_append, List.mem_append] at hn; grind)), hz.dc⟩
theorem GConfig.zero {A : Nat → Prop} {w : World} : ∃ zc : List Value, (Value.agg #[.int .i64 0, .slice none 0 0, .slice none 0 0]).cells = zc.toArray ∧ Rep.rdc A w zc (⟨0, [], []⟩ : GConfig) := ⟨[.int .i64 0, .slice none 0 0, .slice none 0 0], rfl, _, _, rfl, rdNil, rdNil⟩

structure GbitPlace where
  kind : Int
  a : Int
  b : Int
  c : Int
instance : DecidableEq GbitPlace := fun a b =>
  if h : a.kind = b.kind ∧ a.a = b.a ∧ a.b = b.b ∧ a.c = b.c then isTrue (by cases a; cases b; simp_all) else isFalse (by rintro rfl; simp at h)
instance : Rep GbitPlace where
  sz := 4
  agg := true
  rdc A w cs t := cs = [.int .i64 t.kind, .int .i64 t.a, .int .i64 t.b, .int .i64 t.c]
  len := by
    intro A w cs t h
    obtain rfl := h
    rfl
  one := by
    intro A w cs t h c hc
    obtain rfl := h
    simp only [List.mem_cons, List.not_mem_nil, or_false] at hc
    rcases hc with rfl | rfl | rfl | rfl
    · rfl
    · rfl
    · rfl
    · rfl
  pos := by decide
  single h := by cases h
  frame := by
    intro A A' w w' cs t h hf
    obtain rfl := h
    exact rfl
  dc _ cs t B := cs = [.int .i64 t.kind, .int .i64 t.a, .int .i64 t.b, .int .i64 t.c] ∧ B = []
  dcf h _ := h
  dcr h _ := h.1
  dlt h b hb := by simp [h.2] at hb
  flat := true
  flt _ h := ⟨h, rfl⟩
theorem GbitPlace.rdmk {A : Nat → Prop} {w : World} {v0 : Value} {x0 : Int} {v1 : Value} {x1 : Int} {v2 : Value} {x2 : Int} {v3 : Value} {x3 : Int} (h0 : Rd A w v0 x0) (h1 : Rd A w v1 x1) (h2 : Rd A w v2 x2) (h3 : Rd A w v3 x3) : Rd A w (.agg #[v0, v1, v2, v3]) (⟨x0, x1, x2, x3⟩ : GbitPlace) := by
  have e0 := Rd.int h0
  subst e0
  have e1 := Rd.int h1
  subst e1
  have e2 := Rd.int h2
  subst e2
  have e3 := Rd.int h3
  subst e3
  exact ⟨[_, _, _, _], rfl, rfl⟩
theorem GbitPlace.open {A : Nat → Prop} {w : World} {v : Value} {t : GbitPlace} (h : Rd A w v t) : v = .agg #[.int .i64 t.kind, .int .i64 t.a, .int .i64 t.b, .int .i64 t.c] := by
  obtain ⟨cs, e, h⟩ := h
  subst h
  exact e
theorem GbitPlace.opens (t : GbitPlace) : Opens t (fun _ : Unit => .agg #[.int .i64 t.kind, .int .i64 t.a, .int .i64 t.b, .int .i64 t.c]) (fun _ => []) := by
  intro A B w v h
  exact ⟨(), GbitPlace.open h, by simp⟩
theorem GbitPlace.at_kind (t : GbitPlace) : Part 0 t t.kind := by
  intro A w cs h
  obtain rfl := h
  refine ⟨[.int .i64 t.kind], ?_, rfl⟩
  intro j u hj
  match j, hj with
  | 0, hj => simpa using hj
theorem GbitPlace.at_a (t : GbitPlace) : Part 1 t t.a := by
  intro A w cs h
  obtain rfl := h
  refine ⟨[.int .i64 t.a], ?_, rfl⟩
  intro j u hj
  match j, hj with
  | 0, hj => simpa using hj
theorem GbitPlace.at_b (t : GbitPlace) : Part 2 t t.b := by
  intro A w cs h
  obtain rfl := h
  refine ⟨[.int .i64 t.b], ?_, rfl⟩
  intro j u hj
  match j, hj with
  | 0, hj => simpa using hj
theorem GbitPlace.at_c (t : GbitPlace) : Part 3 t t.c := by
  intro A w cs h
  obtain rfl := h
  refine ⟨[.int .i64 t.c], ?_, rfl⟩
  intro j u hj
  match j, hj with
  | 0, hj => simpa using hj
def GbitPlace.enc (t : GbitPlace) : Value := .agg #[.int .i64 t.kind, .int .i64 t.a, .int .i64 t.b, .int .i64 t.c]
theorem GbitPlace.nb {x : GbitPlace} : Nb x := nb_flat rfl x
theorem GbitPlace.dw {w : World} {x0 : Int} {x1 : Int} {x2 : Int} {x3 : Int} {C : List Nat} : Dw w (.agg #[.int .i64 x0, .int .i64 x1, .int .i64 x2, .int .i64 x3]) (⟨x0, x1, x2, x3⟩ : GbitPlace) C C := fun _ => ⟨[], ⟨[.int .i64 x0, .int .i64 x1, .int .i64 x2, .int .i64 x3], rfl, rfl, rfl⟩, by simp, by simp, List.Sublist.refl _⟩
theorem GbitPlace.fs_kind (y : GbitPlace) : FSt 0 y (fun z => (⟨z, y.a, y.b, y.c⟩ : GbitPlace)) := by
  intro w c Bi h
  obtain ⟨rfl, rfl⟩ := h
  exact ⟨by simp, fun k => ⟨rfl, rfl⟩⟩
theorem GbitPlace.fs_a (y : GbitPlace) : FSt 1 y (fun z => (⟨y.kind, z, y.b, y.c⟩ : GbitPlace)) := by
  intro w c Bi h
  obtain ⟨rfl, rfl⟩ := h
  exact ⟨by simp, fun k => ⟨rfl, rfl⟩⟩
theorem GbitPlace.fs_b (y : GbitPlace) : FSt 2 y (fun z => (⟨y.kind, y.a, z, y.c⟩ : GbitPlace)) := by
  intro w c Bi h
  obtain ⟨rfl, rfl⟩ := h
  exact ⟨by simp, fun k => ⟨rfl, rfl⟩⟩
theorem GbitPlace.fs_c (y : GbitPlace) : FSt 3 y (fun z => (⟨y.kind, y.a, y.b, z⟩ : GbitPlace)) := by
  intro w c Bi h
  obtain ⟨rfl, rfl⟩ := h
  exact ⟨by simp, fun k => ⟨rfl, rfl⟩⟩
theorem GbitPlace.zero {A : Nat → Prop} {w : World} : ∃ zc : List Value, (Value.agg #[.int .i64 0, .int .i64 0, .int .i64 0, .int .i64 0]).cells = zc.toArray ∧ Rep.rdc A w zc (⟨0, 0, 0, 0⟩ : GbitPlace) := ⟨[.int .i64 0, .int .i64 0, .int .i64 0, .int .i64 0], rfl, rfl⟩

structure GfoldPlace where
  kind : Int
  q : Int
  half : Int
instance : DecidableEq GfoldPlace := fun a b =>
  if h : a.kind = b.kind ∧ a.q = b.q ∧ a.half = b.half then isTrue (by cases a; cases b; simp_all) else isFalse (by rintro rfl; simp at h)
instance : Rep GfoldPlace where
  sz := 3
  agg := true
  rdc A w cs t := cs = [.int .i64 t.kind, .int .i64 t.q, .int .i64 t.half]
  len := by
    intro A w cs t h
    obtain rfl := h
    rfl
  one := by
    intro A w cs t h c hc
    obtain rfl := h
    simp only [List.mem_cons, List.not_mem_nil, or_false] at hc
    rcases hc with rfl | rfl | rfl
    · rfl
    · rfl
    · rfl
  pos := by decide
  single h := by cases h
  frame := by
    intro A A' w w' cs t h hf
    obtain rfl := h
    exact rfl
  dc _ cs t B := cs = [.int .i64 t.kind, .int .i64 t.q, .int .i64 t.half] ∧ B = []
  dcf h _ := h
  dcr h _ := h.1
  dlt h b hb := by simp [h.2] at hb
  flat := true
  flt _ h := ⟨h, rfl⟩
theorem GfoldPlace.rdmk {A : Nat → Prop} {w : World} {v0 : Value} {x0 : Int} {v1 : Value} {x1 : Int} {v2 : Value} {x2 : Int} (h0 : Rd A w v0 x0) (h1 : Rd A w v1 x1) (h2 : Rd A w v2 x2) : Rd A w (.agg #[v0, v1, v2]) (⟨x0, x1, x2⟩ : GfoldPlace) := by
  have e0 := Rd.int h0
  subst e0
  have e1 := Rd.int h1
  subst e1
  have e2 := Rd.int h2
  subst e2
  exact ⟨[_, _, _], rfl, rfl⟩
theorem GfoldPlace.open {A : Nat → Prop} {w : World} {v : Value} {t : GfoldPlace} (h : Rd A w v t) : v = .agg #[.int .i64 t.kind, .int .i64 t.q, .int .i64 t.half] := by
  obtain ⟨cs, e, h⟩ := h
  subst h
  exact e
theorem GfoldPlace.opens (t : GfoldPlace) : Opens t (fun _ : Unit => .agg #[.int .i64 t.kind, .int .i64 t.q, .int .i64 t.half]) (fun _ => []) := by
  intro A B w v h
  exact ⟨(), GfoldPlace.open h, by simp⟩
theorem GfoldPlace.at_kind (t : GfoldPlace) : Part 0 t t.kind := by
  intro A w cs h
  obtain rfl := h
  refine ⟨[.int .i64 t.kind], ?_, rfl⟩
  intro j u hj
  match j, hj with
  | 0, hj => simpa using hj
theorem GfoldPlace.at_q (t : GfoldPlace) : Part 1 t t.q := by
  intro A w cs h
  obtain rfl := h
  refine ⟨[.int .i64 t.q], ?_, rfl⟩
  intro j u hj
  match j, hj with
  | 0, hj => simpa using hj
theorem GfoldPlace.at_half (t : GfoldPlace) : Part 2 t t.half := by
  intro A w cs h
  obtain rfl := h
  refine ⟨[.int .i64 t.half], ?_, rfl⟩
  intro j u hj
  match j, hj with
  | 0, hj => simpa using hj
def GfoldPlace.enc (t : GfoldPlace) : Value := .agg #[.int .i64 t.kind, .int .i64 t.q, .int .i64 t.half]
theorem GfoldPlace.nb {x : GfoldPlace} : Nb x := nb_flat rfl x
theorem GfoldPlace.dw {w : World} {x0 : Int} {x1 : Int} {x2 : Int} {C : List Nat} : Dw w (.agg #[.int .i64 x0, .int .i64 x1, .int .i64 x2]) (⟨x0, x1, x2⟩ : GfoldPlace) C C := fun _ => ⟨[], ⟨[.int .i64 x0, .int .i64 x1, .int .i64 x2], rfl, rfl, rfl⟩, by simp, by simp, List.Sublist.refl _⟩
theorem GfoldPlace.fs_kind (y : GfoldPlace) : FSt 0 y (fun z => (⟨z, y.q, y.half⟩ : GfoldPlace)) := by
  intro w c Bi h
  obtain ⟨rfl, rfl⟩ := h
  exact ⟨by simp, fun k => ⟨rfl, rfl⟩⟩
theorem GfoldPlace.fs_q (y : GfoldPlace) : FSt 1 y (fun z => (⟨y.kind, z, y.half⟩ : GfoldPlace)) := by
  intro w c Bi h
  obtain ⟨rfl, rfl⟩ := h
  exact ⟨by simp, fun k => ⟨rfl, rfl⟩⟩
theorem GfoldPlace.fs_half (y : GfoldPlace) : FSt 2 y (fun z => (⟨y.kind, y.q, z⟩ : GfoldPlace)) := by
  intro w c Bi h
  obtain ⟨rfl, rfl⟩ := h
  exact ⟨by simp, fun k => ⟨rfl, rfl⟩⟩
theorem GfoldPlace.zero {A : Nat → Prop} {w : World} : ∃ zc : List Value, (Value.agg #[.int .i64 0, .int .i64 0, .int .i64 0]).cells = zc.toArray ∧ Rep.rdc A w zc (⟨0, 0, 0⟩ : GfoldPlace) := ⟨[.int .i64 0, .int .i64 0, .int .i64 0], rfl, rfl⟩

-- Gplaced_bitPlace: struct Gplaced_bitPlace

structure Gaction_bitPlace where
  write : Int
  move : Int
  next_kind : Int
  next_a : Int
  next_b : Int
  next_c : Int
  none : Bool
instance : DecidableEq Gaction_bitPlace := fun a b =>
  if h : a.write = b.write ∧ a.move = b.move ∧ a.next_kind = b.next_kind ∧ a.next_a = b.next_a ∧ a.next_b = b.next_b ∧ a.next_c = b.next_c ∧ a.none = b.none then isTrue (by cases a; cases b; simp_all) else isFalse (by rintro rfl; simp at h)
instance : Rep Gaction_bitPlace where
  sz := 7
  agg := true
  rdc A w cs t := cs = [.int .i64 t.write, .int .i64 t.move, .int .i64 t.next_kind, .int .i64 t.next_a, .int .i64 t.next_b, .int .i64 t.next_c, .bool t.none]
  len := by
    intro A w cs t h
    obtain rfl := h
    rfl
  one := by
    intro A w cs t h c hc
    obtain rfl := h
    simp only [List.mem_cons, List.not_mem_nil, or_false] at hc
    rcases hc with rfl | rfl | rfl | rfl | rfl | rfl | rfl
    · rfl
    · rfl
    · rfl
    · rfl
    · rfl
    · rfl
    · rfl
  pos := by decide
  single h := by cases h
  frame := by
    intro A A' w w' cs t h hf
    obtain rfl := h
    exact rfl
  dc _ cs t B := cs = [.int .i64 t.write, .int .i64 t.move, .int .i64 t.next_kind, .int .i64 t.next_a, .int .i64 t.next_b, .int .i64 t.next_c, .bool t.none] ∧ B = []
  dcf h _ := h
  dcr h _ := h.1
  dlt h b hb := by simp [h.2] at hb
  flat := true
  flt _ h := ⟨h, rfl⟩
theorem Gaction_bitPlace.rdmk {A : Nat → Prop} {w : World} {v0 : Value} {x0 : Int} {v1 : Value} {x1 : Int} {v2 : Value} {x2 : Int} {v3 : Value} {x3 : Int} {v4 : Value} {x4 : Int} {v5 : Value} {x5 : Int} {v6 : Value} {x6 : Bool} (h0 : Rd A w v0 x0) (h1 : Rd A w v1 x1) (h2 : Rd A w v2 x2) (h3 : Rd A w v3 x3) (h4 : Rd A w v4 x4) (h5 : Rd A w v5 x5) (h6 : Rd A w v6 x6) : Rd A w (.agg #[v0, v1, v2, v3, v4, v5, v6]) (⟨x0, x1, x2, x3, x4, x5, x6⟩ : Gaction_bitPlace) := by
  have e0 := Rd.int h0
  subst e0
  have e1 := Rd.int h1
  subst e1
  have e2 := Rd.int h2
  subst e2
  have e3 := Rd.int h3
  subst e3
  have e4 := Rd.int h4
  subst e4
  have e5 := Rd.int h5
  subst e5
  have e6 := Rd.bool h6
  subst e6
  exact ⟨[_, _, _, _, _, _, _], rfl, rfl⟩
theorem Gaction_bitPlace.open {A : Nat → Prop} {w : World} {v : Value} {t : Gaction_bitPlace} (h : Rd A w v t) : v = .agg #[.int .i64 t.write, .int .i64 t.move, .int .i64 t.next_kind, .int .i64 t.next_a, .int .i64 t.next_b, .int .i64 t.next_c, .bool t.none] := by
  obtain ⟨cs, e, h⟩ := h
  subst h
  exact e
theorem Gaction_bitPlace.opens (t : Gaction_bitPlace) : Opens t (fun _ : Unit => .agg #[.int .i64 t.write, .int .i64 t.move, .int .i64 t.next_kind, .int .i64 t.next_a, .int .i64 t.next_b, .int .i64 t.next_c, .bool t.none]) (fun _ => []) := by
  intro A B w v h
  exact ⟨(), Gaction_bitPlace.open h, by simp⟩
theorem Gaction_bitPlace.at_write (t : Gaction_bitPlace) : Part 0 t t.write := by
  intro A w cs h
  obtain rfl := h
  refine ⟨[.int .i64 t.write], ?_, rfl⟩
  intro j u hj
  match j, hj with
  | 0, hj => simpa using hj
theorem Gaction_bitPlace.at_move (t : Gaction_bitPlace) : Part 1 t t.move := by
  intro A w cs h
  obtain rfl := h
  refine ⟨[.int .i64 t.move], ?_, rfl⟩
  intro j u hj
  match j, hj with
  | 0, hj => simpa using hj
theorem Gaction_bitPlace.at_next_kind (t : Gaction_bitPlace) : Part 2 t t.next_kind := by
  intro A w cs h
  obtain rfl := h
  refine ⟨[.int .i64 t.next_kind], ?_, rfl⟩
  intro j u hj
  match j, hj with
  | 0, hj => simpa using hj
theorem Gaction_bitPlace.at_next_a (t : Gaction_bitPlace) : Part 3 t t.next_a := by
  intro A w cs h
  obtain rfl := h
  refine ⟨[.int .i64 t.next_a], ?_, rfl⟩
  intro j u hj
  match j, hj with
  | 0, hj => simpa using hj
theorem Gaction_bitPlace.at_next_b (t : Gaction_bitPlace) : Part 4 t t.next_b := by
  intro A w cs h
  obtain rfl := h
  refine ⟨[.int .i64 t.next_b], ?_, rfl⟩
  intro j u hj
  match j, hj with
  | 0, hj => simpa using hj
theorem Gaction_bitPlace.at_next_c (t : Gaction_bitPlace) : Part 5 t t.next_c := by
  intro A w cs h
  obtain rfl := h
  refine ⟨[.int .i64 t.next_c], ?_, rfl⟩
  intro j u hj
  match j, hj with
  | 0, hj => simpa using hj
theorem Gaction_bitPlace.at_none (t : Gaction_bitPlace) : Part 6 t t.none := by
  intro A w cs h
  obtain rfl := h
  refine ⟨[.bool t.none], ?_, rfl⟩
  intro j u hj
  match j, hj with
  | 0, hj => simpa using hj
theorem Gaction_bitPlace.at_next (t : Gaction_bitPlace) : Part 2 t (⟨t.next_kind, t.next_a, t.next_b, t.next_c⟩ : GbitPlace) := by
  intro A w cs h
  obtain rfl := h
  refine ⟨[.int .i64 t.next_kind, .int .i64 t.next_a, .int .i64 t.next_b, .int .i64 t.next_c], ?_, rfl⟩
  intro j u hj
  match j, hj with
  | 0, hj => simpa using hj
  | 1, hj => simpa using hj
  | 2, hj => simpa using hj
  | 3, hj => simpa using hj
def Gaction_bitPlace.enc (t : Gaction_bitPlace) : Value := .agg #[.int .i64 t.write, .int .i64 t.move, .int .i64 t.next_kind, .int .i64 t.next_a, .int .i64 t.next_b, .int .i64 t.next_c, .bool t.none]
theorem Gaction_bitPlace.nb {x : Gaction_bitPlace} : Nb x := nb_flat rfl x
theorem Gaction_bitPlace.dw {w : World} {x0 : Int} {x1 : Int} {x2 : Int} {x3 : Int} {x4 : Int} {x5 : Int} {x6 : Bool} {C : List Nat} : Dw w (.agg #[.int .i64 x0, .int .i64 x1, .int .i64 x2, .int .i64 x3, .int .i64 x4, .int .i64 x5, .bool x6]) (⟨x0, x1, x2, x3, x4, x5, x6⟩ : Gaction_bitPlace) C C := fun _ => ⟨[], ⟨[.int .i64 x0, .int .i64 x1, .int .i64 x2, .int .i64 x3, .int .i64 x4, .int .i64 x5, .bool x6], rfl, rfl, rfl⟩, by simp, by simp, List.Sublist.refl _⟩
theorem Gaction_bitPlace.fs_write (y : Gaction_bitPlace) : FSt 0 y (fun z => (⟨z, y.move, y.next_kind, y.next_a, y.next_b, y.next_c, y.none⟩ : Gaction_bitPlace)) := by
  intro w c Bi h
  obtain ⟨rfl, rfl⟩ := h
  exact ⟨by simp, fun k => ⟨rfl, rfl⟩⟩
theorem Gaction_bitPlace.fs_move (y : Gaction_bitPlace) : FSt 1 y (fun z => (⟨y.write, z, y.next_kind, y.next_a, y.next_b, y.next_c, y.none⟩ : Gaction_bitPlace)) := by
  intro w c Bi h
  obtain ⟨rfl, rfl⟩ := h
  exact ⟨by simp, fun k => ⟨rfl, rfl⟩⟩
theorem Gaction_bitPlace.fs_next_kind (y : Gaction_bitPlace) : FSt 2 y (fun z => (⟨y.write, y.move, z, y.next_a, y.next_b, y.next_c, y.none⟩ : Gaction_bitPlace)) := by
  intro w c Bi h
  obtain ⟨rfl, rfl⟩ := h
  exact ⟨by simp, fun k => ⟨rfl, rfl⟩⟩
theorem Gaction_bitPlace.fs_next_a (y : Gaction_bitPlace) : FSt 3 y (fun z => (⟨y.write, y.move, y.next_kind, z, y.next_b, y.next_c, y.none⟩ : Gaction_bitPlace)) := by
  intro w c Bi h
  obtain ⟨rfl, rfl⟩ := h
  exact ⟨by simp, fun k => ⟨rfl, rfl⟩⟩
theorem Gaction_bitPlace.fs_next_b (y : Gaction_bitPlace) : FSt 4 y (fun z => (⟨y.write, y.move, y.next_kind, y.next_a, z, y.next_c, y.none⟩ : Gaction_bitPlace)) := by
  intro w c Bi h
  obtain ⟨rfl, rfl⟩ := h
  exact ⟨by simp, fun k => ⟨rfl, rfl⟩⟩
theorem Gaction_bitPlace.fs_next_c (y : Gaction_bitPlace) : FSt 5 y (fun z => (⟨y.write, y.move, y.next_kind, y.next_a, y.next_b, z, y.none⟩ : Gaction_bitPlace)) := by
  intro w c Bi h
  obtain ⟨rfl, rfl⟩ := h
  exact ⟨by simp, fun k => ⟨rfl, rfl⟩⟩
theorem Gaction_bitPlace.zero {A : Nat → Prop} {w : World} : ∃ zc : List Value, (Value.agg #[.int .i64 0, .int .i64 0, .int .i64 0, .int .i64 0, .int .i64 0, .int .i64 0, .bool false]).cells = zc.toArray ∧ Rep.rdc A w zc (⟨0, 0, 0, 0, 0, 0, false⟩ : Gaction_bitPlace) := ⟨[.int .i64 0, .int .i64 0, .int .i64 0, .int .i64 0, .int .i64 0, .int .i64 0, .bool false], rfl, rfl⟩

-- Gplaced_foldPlace: struct Gplaced_foldPlace

structure Gaction_foldPlace where
  write : Int
  move : Int
  next_kind : Int
  next_q : Int
  next_half : Int
  none : Bool
instance : DecidableEq Gaction_foldPlace := fun a b =>
  if h : a.write = b.write ∧ a.move = b.move ∧ a.next_kind = b.next_kind ∧ a.next_q = b.next_q ∧ a.next_half = b.next_half ∧ a.none = b.none then isTrue (by cases a; cases b; simp_all) else isFalse (by rintro rfl; simp at h)
instance : Rep Gaction_foldPlace where
  sz := 6
  agg := true
  rdc A w cs t := cs = [.int .i64 t.write, .int .i64 t.move, .int .i64 t.next_kind, .int .i64 t.next_q, .int .i64 t.next_half, .bool t.none]
  len := by
    intro A w cs t h
    obtain rfl := h
    rfl
  one := by
    intro A w cs t h c hc
    obtain rfl := h
    simp only [List.mem_cons, List.not_mem_nil, or_false] at hc
    rcases hc with rfl | rfl | rfl | rfl | rfl | rfl
    · rfl
    · rfl
    · rfl
    · rfl
    · rfl
    · rfl
  pos := by decide
  single h := by cases h
  frame := by
    intro A A' w w' cs t h hf
    obtain rfl := h
    exact rfl
  dc _ cs t B := cs = [.int .i64 t.write, .int .i64 t.move, .int .i64 t.next_kind, .int .i64 t.next_q, .int .i64 t.next_half, .bool t.none] ∧ B = []
  dcf h _ := h
  dcr h _ := h.1
  dlt h b hb := by simp [h.2] at hb
  flat := true
  flt _ h := ⟨h, rfl⟩
theorem Gaction_foldPlace.rdmk {A : Nat → Prop} {w : World} {v0 : Value} {x0 : Int} {v1 : Value} {x1 : Int} {v2 : Value} {x2 : Int} {v3 : Value} {x3 : Int} {v4 : Value} {x4 : Int} {v5 : Value} {x5 : Bool} (h0 : Rd A w v0 x0) (h1 : Rd A w v1 x1) (h2 : Rd A w v2 x2) (h3 : Rd A w v3 x3) (h4 : Rd A w v4 x4) (h5 : Rd A w v5 x5) : Rd A w (.agg #[v0, v1, v2, v3, v4, v5]) (⟨x0, x1, x2, x3, x4, x5⟩ : Gaction_foldPlace) := by
  have e0 := Rd.int h0
  subst e0
  have e1 := Rd.int h1
  subst e1
  have e2 := Rd.int h2
  subst e2
  have e3 := Rd.int h3
  subst e3
  have e4 := Rd.int h4
  subst e4
  have e5 := Rd.bool h5
  subst e5
  exact ⟨[_, _, _, _, _, _], rfl, rfl⟩
theorem Gaction_foldPlace.open {A : Nat → Prop} {w : World} {v : Value} {t : Gaction_foldPlace} (h : Rd A w v t) : v = .agg #[.int .i64 t.write, .int .i64 t.move, .int .i64 t.next_kind, .int .i64 t.next_q, .int .i64 t.next_half, .bool t.none] := by
  obtain ⟨cs, e, h⟩ := h
  subst h
  exact e
theorem Gaction_foldPlace.opens (t : Gaction_foldPlace) : Opens t (fun _ : Unit => .agg #[.int .i64 t.write, .int .i64 t.move, .int .i64 t.next_kind, .int .i64 t.next_q, .int .i64 t.next_half, .bool t.none]) (fun _ => []) := by
  intro A B w v h
  exact ⟨(), Gaction_foldPlace.open h, by simp⟩
theorem Gaction_foldPlace.at_write (t : Gaction_foldPlace) : Part 0 t t.write := by
  intro A w cs h
  obtain rfl := h
  refine ⟨[.int .i64 t.write], ?_, rfl⟩
  intro j u hj
  match j, hj with
  | 0, hj => simpa using hj
theorem Gaction_foldPlace.at_move (t : Gaction_foldPlace) : Part 1 t t.move := by
  intro A w cs h
  obtain rfl := h
  refine ⟨[.int .i64 t.move], ?_, rfl⟩
  intro j u hj
  match j, hj with
  | 0, hj => simpa using hj
theorem Gaction_foldPlace.at_next_kind (t : Gaction_foldPlace) : Part 2 t t.next_kind := by
  intro A w cs h
  obtain rfl := h
  refine ⟨[.int .i64 t.next_kind], ?_, rfl⟩
  intro j u hj
  match j, hj with
  | 0, hj => simpa using hj
theorem Gaction_foldPlace.at_next_q (t : Gaction_foldPlace) : Part 3 t t.next_q := by
  intro A w cs h
  obtain rfl := h
  refine ⟨[.int .i64 t.next_q], ?_, rfl⟩
  intro j u hj
  match j, hj with
  | 0, hj => simpa using hj
theorem Gaction_foldPlace.at_next_half (t : Gaction_foldPlace) : Part 4 t t.next_half := by
  intro A w cs h
  obtain rfl := h
  refine ⟨[.int .i64 t.next_half], ?_, rfl⟩
  intro j u hj
  match j, hj with
  | 0, hj => simpa using hj
theorem Gaction_foldPlace.at_none (t : Gaction_foldPlace) : Part 5 t t.none := by
  intro A w cs h
  obtain rfl := h
  refine ⟨[.bool t.none], ?_, rfl⟩
  intro j u hj
  match j, hj with
  | 0, hj => simpa using hj
theorem Gaction_foldPlace.at_next (t : Gaction_foldPlace) : Part 2 t (⟨t.next_kind, t.next_q, t.next_half⟩ : GfoldPlace) := by
  intro A w cs h
  obtain rfl := h
  refine ⟨[.int .i64 t.next_kind, .int .i64 t.next_q, .int .i64 t.next_half], ?_, rfl⟩
  intro j u hj
  match j, hj with
  | 0, hj => simpa using hj
  | 1, hj => simpa using hj
  | 2, hj => simpa using hj
def Gaction_foldPlace.enc (t : Gaction_foldPlace) : Value := .agg #[.int .i64 t.write, .int .i64 t.move, .int .i64 t.next_kind, .int .i64 t.next_q, .int .i64 t.next_half, .bool t.none]
theorem Gaction_foldPlace.nb {x : Gaction_foldPlace} : Nb x := nb_flat rfl x
theorem Gaction_foldPlace.dw {w : World} {x0 : Int} {x1 : Int} {x2 : Int} {x3 : Int} {x4 : Int} {x5 : Bool} {C : List Nat} : Dw w (.agg #[.int .i64 x0, .int .i64 x1, .int .i64 x2, .int .i64 x3, .int .i64 x4, .bool x5]) (⟨x0, x1, x2, x3, x4, x5⟩ : Gaction_foldPlace) C C := fun _ => ⟨[], ⟨[.int .i64 x0, .int .i64 x1, .int .i64 x2, .int .i64 x3, .int .i64 x4, .bool x5], rfl, rfl, rfl⟩, by simp, by simp, List.Sublist.refl _⟩
theorem Gaction_foldPlace.fs_write (y : Gaction_foldPlace) : FSt 0 y (fun z => (⟨z, y.move, y.next_kind, y.next_q, y.next_half, y.none⟩ : Gaction_foldPlace)) := by
  intro w c Bi h
  obtain ⟨rfl, rfl⟩ := h
  exact ⟨by simp, fun k => ⟨rfl, rfl⟩⟩
theorem Gaction_foldPlace.fs_move (y : Gaction_foldPlace) : FSt 1 y (fun z => (⟨y.write, z, y.next_kind, y.next_q, y.next_half, y.none⟩ : Gaction_foldPlace)) := by
  intro w c Bi h
  obtain ⟨rfl, rfl⟩ := h
  exact ⟨by simp, fun k => ⟨rfl, rfl⟩⟩
theorem Gaction_foldPlace.fs_next_kind (y : Gaction_foldPlace) : FSt 2 y (fun z => (⟨y.write, y.move, z, y.next_q, y.next_half, y.none⟩ : Gaction_foldPlace)) := by
  intro w c Bi h
  obtain ⟨rfl, rfl⟩ := h
  exact ⟨by simp, fun k => ⟨rfl, rfl⟩⟩
theorem Gaction_foldPlace.fs_next_q (y : Gaction_foldPlace) : FSt 3 y (fun z => (⟨y.write, y.move, y.next_kind, z, y.next_half, y.none⟩ : Gaction_foldPlace)) := by
  intro w c Bi h
  obtain ⟨rfl, rfl⟩ := h
  exact ⟨by simp, fun k => ⟨rfl, rfl⟩⟩
theorem Gaction_foldPlace.fs_next_half (y : Gaction_foldPlace) : FSt 4 y (fun z => (⟨y.write, y.move, y.next_kind, y.next_q, z, y.none⟩ : Gaction_foldPlace)) := by
  intro w c Bi h
  obtain ⟨rfl, rfl⟩ := h
  exact ⟨by simp, fun k => ⟨rfl, rfl⟩⟩
theorem Gaction_foldPlace.zero {A : Nat → Prop} {w : World} : ∃ zc : List Value, (Value.agg #[.int .i64 0, .int .i64 0, .int .i64 0, .int .i64 0, .int .i64 0, .bool false]).cells = zc.toArray ∧ Rep.rdc A w zc (⟨0, 0, 0, 0, 0, false⟩ : Gaction_foldPlace) := ⟨[.int .i64 0, .int .i64 0, .int .i64 0, .int .i64 0, .int .i64 0, .bool false], rfl, rfl⟩

structure GMultiRule where
  State : Int
  Read : (List Int)
  Write : (List Int)
  Move : (List Int)
  Next : Int
instance : DecidableEq GMultiRule := fun a b =>
  if h : a.State = b.State ∧ a.Read = b.Read ∧ a.Write = b.Write ∧ a.Move = b.Move ∧ a.Next = b.Next then isTrue (by cases a; cases b; simp_all) else isFalse (by rintro rfl; simp at h)
instance : Rep GMultiRule where
  sz := 5
  agg := true
  rdc A w cs t := ∃ v1 v2 v3, cs = [.int .i64 t.State, v1, v2, v3, .int .i64 t.Next] ∧ Rd A w v1 t.Read ∧ Rd A w v2 t.Write ∧ Rd A w v3 t.Move
  len := by
    intro A w cs t h
    obtain ⟨v1, v2, v3, rfl, h1, h2, h3⟩ := h
    rfl
  one := by
    intro A w cs t h c hc
    obtain ⟨v1, v2, v3, rfl, h1, h2, h3⟩ := h
    simp only [List.mem_cons, List.not_mem_nil, or_false] at hc
    rcases hc with rfl | rfl | rfl | rfl | rfl
    · rfl
    · exact (Rd.sl h1).oneCell
    · exact (Rd.sl h2).oneCell
    · exact (Rd.sl h3).oneCell
    · rfl
  pos := by decide
  single h := by cases h
  frame := by
    intro A A' w w' cs t h hf
    obtain ⟨v1, v2, v3, rfl, h1, h2, h3⟩ := h
    exact ⟨v1, v2, v3, rfl, h1.frame hf, h2.frame hf, h3.frame hf⟩
  dc w cs t B := ∃ v1 v2 v3 B1 B2 B3, cs = [.int .i64 t.State, v1, v2, v3, .int .i64 t.Next] ∧ B = B1 ++ B2 ++ B3 ∧ Dc w v1 t.Read B1 ∧ Dc w v2 t.Write B2 ∧ Dc w v3 t.Move B3
  dcf := by
    intro w w' cs t B h hf
    obtain ⟨v1, v2, v3, B1, B2, B3, rfl, rfl, h1, h2, h3⟩ := h
    exact ⟨v1, v2, v3, _, _, _, rfl, rfl, h1.frame (fun b hb => hf b (by simp [hb])), h2.frame (fun b hb => hf b (by simp [hb])), h3.frame (fun b hb => hf b (by simp [hb]))⟩
  dcr := by
    intro A w cs t B h hA
    obtain ⟨v1, v2, v3, B1, B2, B3, rfl, rfl, h1, h2, h3⟩ := h
    exact ⟨v1, v2, v3, rfl, h1.rd (fun b hb => hA b (by simp [hb])), h2.rd (fun b hb => hA b (by simp [hb])), h3.rd (fun b hb => hA b (by simp [hb]))⟩
  dlt := by
    intro w cs t B h b hb
    obtain ⟨v1, v2, v3, B1, B2, B3, rfl, rfl, h1, h2, h3⟩ := h
    simp only [List.append_assoc, List.mem_append] at hb
    rcases hb with hb | hb | hb
    · exact h1.lt b hb
    · exact h2.lt b hb
    · exact h3.lt b hb
  flat := false
  flt h := by cases h
theorem GMultiRule.rdmk {A : Nat → Prop} {w : World} {v0 : Value} {x0 : Int} {v1 : Value} {x1 : (List Int)} {v2 : Value} {x2 : (List Int)} {v3 : Value} {x3 : (List Int)} {v4 : Value} {x4 : Int} (h0 : Rd A w v0 x0) (h1 : Rd A w v1 x1) (h2 : Rd A w v2 x2) (h3 : Rd A w v3 x3) (h4 : Rd A w v4 x4) : Rd A w (.agg #[v0, v1, v2, v3, v4]) (⟨x0, x1, x2, x3, x4⟩ : GMultiRule) := by
  have e0 := Rd.int h0
  subst e0
  have e4 := Rd.int h4
  subst e4
  exact ⟨[_, _, _, _, _], rfl, v1, v2, v3, rfl, h1, h2, h3⟩
theorem GMultiRule.open {A : Nat → Prop} {w : World} {v : Value} {t : GMultiRule} (h : Rd A w v t) : ∃ v1 v2 v3, v = .agg #[.int .i64 t.State, v1, v2, v3, .int .i64 t.Next] ∧ Rd A w v1 t.Read ∧ Rd A w v2 t.Write ∧ Rd A w v3 t.Move := by
  obtain ⟨cs, e, h⟩ := h
  obtain ⟨v1, v2, v3, rfl, h1, h2, h3⟩ := h
  exact ⟨v1, v2, v3, e, h1, h2, h3⟩
theorem GMultiRule.opens (t : GMultiRule) : Opens t (fun x : Value × Value × Value => .agg #[.int .i64 t.State, x.1, x.2.1, x.2.2, .int .i64 t.Next]) (fun x => [.rd x.1 t.Read, .rd x.2.1 t.Write, .rd x.2.2 t.Move]) := by
  intro A B w v h
  obtain ⟨v1, v2, v3, e, h1, h2, h3⟩ := GMultiRule.open h
  refine ⟨(v1, v2, v3), e, ?_⟩
  intro f hf
  simp only [List.mem_cons, List.not_mem_nil, or_false] at hf
  rcases hf with rfl | rfl | rfl
  · exact ⟨⟨rfl, rfl⟩, h1⟩
  · exact ⟨⟨rfl, rfl⟩, h2⟩
  · exact ⟨⟨rfl, rfl⟩, h3⟩
theorem GMultiRule.at_State (t : GMultiRule) : Part 0 t t.State := by
  intro A w cs h
  obtain ⟨v1, v2, v3, rfl, h1, h2, h3⟩ := h
  refine ⟨[.int .i64 t.State], ?_, rfl⟩
  intro j u hj
  match j, hj with
  | 0, hj => simpa using hj
theorem GMultiRule.at_Read (t : GMultiRule) : Part 1 t t.Read := by
  intro A w cs h
  obtain ⟨v1, v2, v3, rfl, h1, h2, h3⟩ := h
  refine ⟨[v1], ?_, h1.cell rfl⟩
  intro j u hj
  match j, hj with
  | 0, hj => simpa using hj
theorem GMultiRule.at_Write (t : GMultiRule) : Part 2 t t.Write := by
  intro A w cs h
  obtain ⟨v1, v2, v3, rfl, h1, h2, h3⟩ := h
  refine ⟨[v2], ?_, h2.cell rfl⟩
  intro j u hj
  match j, hj with
  | 0, hj => simpa using hj
theorem GMultiRule.at_Move (t : GMultiRule) : Part 3 t t.Move := by
  intro A w cs h
  obtain ⟨v1, v2, v3, rfl, h1, h2, h3⟩ := h
  refine ⟨[v3], ?_, h3.cell rfl⟩
  intro j u hj
  match j, hj with
  | 0, hj => simpa using hj
theorem GMultiRule.at_Next (t : GMultiRule) : Part 4 t t.Next := by
  intro A w cs h
  obtain ⟨v1, v2, v3, rfl, h1, h2, h3⟩ := h
  refine ⟨[.int .i64 t.Next], ?_, rfl⟩
  intro j u hj
  match j, hj with
  | 0, hj => simpa using hj
theorem GMultiRule.nb {x0 : Int} {x1 : (List Int)} {x2 : (List Int)} {x3 : (List Int)} {x4 : Int} (h1 : Nb x1) (h2 : Nb x2) (h3 : Nb x3) : Nb (⟨x0, x1, x2, x3, x4⟩ : GMultiRule) := by
  intro A w cs h
  obtain ⟨v1, v2, v3, rfl, r1, r2, r3⟩ := h
  obtain ⟨c1, e1, q1⟩ := r1
  obtain ⟨c2, e2, q2⟩ := r2
  obtain ⟨c3, e3, q3⟩ := r3
  exact ⟨v1, v2, v3, [], [], [], rfl, rfl, ⟨c1, e1, h1 _ _ _ q1⟩, ⟨c2, e2, h2 _ _ _ q2⟩, ⟨c3, e3, h3 _ _ _ q3⟩⟩
theorem GMultiRule.dw {w : World} {x0 : Int} {x1 : (List Int)} {x2 : (List Int)} {x3 : (List Int)} {x4 : Int} {v1 : Value} {v2 : Value} {v3 : Value} {C0 C1 C2 C3 : List Nat} (h1 : Dw w v1 x1 C0 C1) (h2 : Dw w v2 x2 C1 C2) (h3 : Dw w v3 x3 C2 C3) : Dw w (.agg #[.int .i64 x0, v1, v2, v3, .int .i64 x4]) (⟨x0, x1, x2, x3, x4⟩ : GMultiRule) C0 C3 := by
  intro hn
  obtain ⟨B1, B2, B3, a0, a1, a2, nd, mem, sub⟩ := h1.three h2 h3 hn
  exact ⟨_, ⟨[.int .i64 x0, v1, v2, v3, .int .i64 x4], rfl, v1, v2, v3, B1, B2, B3, rfl, rfl, a0, a1, a2⟩, nd, mem, sub⟩
theorem GMultiRule.fs_State (y : GMultiRule) : FSt 0 y (fun z => (⟨z, y.Read, y.Write, y.Move, y.Next⟩ : GMultiRule)) := by
  intro w c Bi h
  obtain ⟨v1, v2, v3, B1, B2, B3, rfl, rfl, h1, h2, h3⟩ := h
  exact ⟨by simp, fun k => ⟨v1, v2, v3, _, _, _, rfl, rfl, h1, h2, h3⟩⟩
theorem GMultiRule.fc_Read (y : GMultiRule) : FC 1 y y.Read (fun z => (⟨y.State, z, y.Write, y.Move, y.Next⟩ : GMultiRule)) := by
  intro w c Bi h
  obtain ⟨v1, v2, v3, B1, B2, B3, rfl, rfl, h1, h2, h3⟩ := h
  refine ⟨v1, _, rfl, h1.ds, fun hn => ?_, fun b hb => by simp [hb], fun w' z' hz hn hf => ?_⟩
  · simp only [List.nodup_append] at hn
    first | exact hn.1 | exact hn.2.1 | exact hn.1.1 | exact hn.1.2.1
  · exact ⟨v1, v2, v3, _, _, _, rfl, rfl, hz.dc, h2.frame (fun b hb => hf b (by simp [hb]) (fun hm => by simp only [List.nodup_append, List.mem_append] at hn; grind)), h3.frame (fun b hb => hf b (by simp [hb]) (fun hm => by simp only [List.nodup_append, List.mem_append] at hn; grind))⟩
theorem GMultiRule.fc_Write (y : GMultiRule) : FC 2 y y.Write (fun z => (⟨y.State, y.Read, z, y.Move, y.Next⟩ : GMultiRule)) := by
  intro w c Bi h
  obtain ⟨v1, v2, v3, B1, B2, B3, rfl, rfl, h1, h2, h3⟩ := h
  refine ⟨v2, _, rfl, h2.ds, fun hn => ?_, fun b hb => by simp [hb], fun w' z' hz hn hf => ?_⟩
  · simp only [List.nodup_append] at hn
    first | exact hn.1 | exact hn.2.1 | exact hn.1.1 | exact hn.1.2.1
  · exact ⟨v1, v2, v3, _, _, _, rfl, rfl, h1.frame (fun b hb => hf b (by simp [hb]) (fun hm => by simp only [List.nodup_append, List.mem_append] at hn; grind)), hz.dc, h3.frame (fun b hb => hf b (by simp [hb]) (fun hm => by simp only [List.nodup_append, List.mem_append] at hn; grind))⟩
theorem GMultiRule.fc_Move (y : GMultiRule) : FC 3 y y.Move (fun z => (⟨y.State, y.Read, y.Write, z, y.Next⟩ : GMultiRule)) := by
  intro w c Bi h
  obtain ⟨v1, v2, v3, B1, B2, B3, rfl, rfl, h1, h2, h3⟩ := h
  refine ⟨v3, _, rfl, h3.ds, fun hn => ?_, fun b hb => by simp [hb], fun w' z' hz hn hf => ?_⟩
  · simp only [List.nodup_append] at hn
    first | exact hn.1 | exact hn.2.1 | exact hn.1.1 | exact hn.1.2.1
  · exact ⟨v1, v2, v3, _, _, _, rfl, rfl, h1.frame (fun b hb => hf b (by simp [hb]) (fun hm => by simp only [List.nodup_append, List.mem_append] at hn; grind)), h2.frame (fun b hb => hf b (by simp [hb]) (fun hm => by simp only [List.nodup_append, List.mem_append] at hn; grind)), hz.dc⟩
theorem GMultiRule.fs_Next (y : GMultiRule) : FSt 4 y (fun z => (⟨y.State, y.Read, y.Write, y.Move, z⟩ : GMultiRule)) := by
  intro w c Bi h
  obtain ⟨v1, v2, v3, B1, B2, B3, rfl, rfl, h1, h2, h3⟩ := h
  exact ⟨by simp, fun k => ⟨v1, v2, v3, _, _, _, rfl, rfl, h1, h2, h3⟩⟩
theorem GMultiRule.zero {A : Nat → Prop} {w : World} : ∃ zc : List Value, (Value.agg #[.int .i64 0, .slice none 0 0, .slice none 0 0, .slice none 0 0, .int .i64 0]).cells = zc.toArray ∧ Rep.rdc A w zc (⟨0, [], [], [], 0⟩ : GMultiRule) := ⟨[.int .i64 0, .slice none 0 0, .slice none 0 0, .slice none 0 0, .int .i64 0], rfl, _, _, _, rfl, rdNil, rdNil, rdNil⟩

structure GMulti where
  Tapes : Int
  Symbols : Int
  States : Int
  Rules : (List GMultiRule)
instance : Rep GMulti where
  sz := 4
  agg := true
  rdc A w cs t := ∃ v3, cs = [.int .i64 t.Tapes, .int .i64 t.Symbols, .int .i64 t.States, v3] ∧ Rd A w v3 t.Rules
  len := by
    intro A w cs t h
    obtain ⟨v3, rfl, h3⟩ := h
    rfl
  one := by
    intro A w cs t h c hc
    obtain ⟨v3, rfl, h3⟩ := h
    simp only [List.mem_cons, List.not_mem_nil, or_false] at hc
    rcases hc with rfl | rfl | rfl | rfl
    · rfl
    · rfl
    · rfl
    · exact (Rd.sl h3).oneCell
  pos := by decide
  single h := by cases h
  frame := by
    intro A A' w w' cs t h hf
    obtain ⟨v3, rfl, h3⟩ := h
    exact ⟨v3, rfl, h3.frame hf⟩
  dc w cs t B := ∃ v3 B3, cs = [.int .i64 t.Tapes, .int .i64 t.Symbols, .int .i64 t.States, v3] ∧ B = B3 ∧ Dc w v3 t.Rules B3
  dcf := by
    intro w w' cs t B h hf
    obtain ⟨v3, B3, rfl, rfl, h3⟩ := h
    exact ⟨v3, _, rfl, rfl, h3.frame (fun b hb => hf b (by simp [hb]))⟩
  dcr := by
    intro A w cs t B h hA
    obtain ⟨v3, B3, rfl, rfl, h3⟩ := h
    exact ⟨v3, rfl, h3.rd (fun b hb => hA b (by simp [hb]))⟩
  dlt := by
    intro w cs t B h b hb
    obtain ⟨v3, B3, rfl, rfl, h3⟩ := h
    exact h3.lt b hb
  flat := false
  flt h := by cases h
theorem GMulti.rdmk {A : Nat → Prop} {w : World} {v0 : Value} {x0 : Int} {v1 : Value} {x1 : Int} {v2 : Value} {x2 : Int} {v3 : Value} {x3 : (List GMultiRule)} (h0 : Rd A w v0 x0) (h1 : Rd A w v1 x1) (h2 : Rd A w v2 x2) (h3 : Rd A w v3 x3) : Rd A w (.agg #[v0, v1, v2, v3]) (⟨x0, x1, x2, x3⟩ : GMulti) := by
  have e0 := Rd.int h0
  subst e0
  have e1 := Rd.int h1
  subst e1
  have e2 := Rd.int h2
  subst e2
  exact ⟨[_, _, _, _], rfl, v3, rfl, h3⟩
theorem GMulti.open {A : Nat → Prop} {w : World} {v : Value} {t : GMulti} (h : Rd A w v t) : ∃ v3, v = .agg #[.int .i64 t.Tapes, .int .i64 t.Symbols, .int .i64 t.States, v3] ∧ Rd A w v3 t.Rules := by
  obtain ⟨cs, e, h⟩ := h
  obtain ⟨v3, rfl, h3⟩ := h
  exact ⟨v3, e, h3⟩
theorem GMulti.opens (t : GMulti) : Opens t (fun x : Value => .agg #[.int .i64 t.Tapes, .int .i64 t.Symbols, .int .i64 t.States, x]) (fun x => [.rd x t.Rules]) := by
  intro A B w v h
  obtain ⟨v3, e, h3⟩ := GMulti.open h
  refine ⟨v3, e, ?_⟩
  intro f hf
  simp only [List.mem_cons, List.not_mem_nil, or_false] at hf
  rcases hf with rfl
  · exact ⟨⟨rfl, rfl⟩, h3⟩
theorem GMulti.at_Tapes (t : GMulti) : Part 0 t t.Tapes := by
  intro A w cs h
  obtain ⟨v3, rfl, h3⟩ := h
  refine ⟨[.int .i64 t.Tapes], ?_, rfl⟩
  intro j u hj
  match j, hj with
  | 0, hj => simpa using hj
theorem GMulti.at_Symbols (t : GMulti) : Part 1 t t.Symbols := by
  intro A w cs h
  obtain ⟨v3, rfl, h3⟩ := h
  refine ⟨[.int .i64 t.Symbols], ?_, rfl⟩
  intro j u hj
  match j, hj with
  | 0, hj => simpa using hj
theorem GMulti.at_States (t : GMulti) : Part 2 t t.States := by
  intro A w cs h
  obtain ⟨v3, rfl, h3⟩ := h
  refine ⟨[.int .i64 t.States], ?_, rfl⟩
  intro j u hj
  match j, hj with
  | 0, hj => simpa using hj
theorem GMulti.at_Rules (t : GMulti) : Part 3 t t.Rules := by
  intro A w cs h
  obtain ⟨v3, rfl, h3⟩ := h
  refine ⟨[v3], ?_, h3.cell rfl⟩
  intro j u hj
  match j, hj with
  | 0, hj => simpa using hj
theorem GMulti.nb {x0 : Int} {x1 : Int} {x2 : Int} {x3 : (List GMultiRule)} (h3 : Nb x3) : Nb (⟨x0, x1, x2, x3⟩ : GMulti) := by
  intro A w cs h
  obtain ⟨v3, rfl, r3⟩ := h
  obtain ⟨c3, e3, q3⟩ := r3
  exact ⟨v3, [], rfl, rfl, ⟨c3, e3, h3 _ _ _ q3⟩⟩
theorem GMulti.dw {w : World} {x0 : Int} {x1 : Int} {x2 : Int} {x3 : (List GMultiRule)} {v3 : Value} {C0 C1 : List Nat} (h3 : Dw w v3 x3 C0 C1) : Dw w (.agg #[.int .i64 x0, .int .i64 x1, .int .i64 x2, v3]) (⟨x0, x1, x2, x3⟩ : GMulti) C0 C1 := by
  intro hn
  obtain ⟨B, a0, nd, mem, sub⟩ := h3 hn
  exact ⟨_, ⟨[.int .i64 x0, .int .i64 x1, .int .i64 x2, v3], rfl, v3, B, rfl, rfl, a0⟩, nd, mem, sub⟩
theorem GMulti.fs_Tapes (y : GMulti) : FSt 0 y (fun z => (⟨z, y.Symbols, y.States, y.Rules⟩ : GMulti)) := by
  intro w c Bi h
  obtain ⟨v3, B3, rfl, rfl, h3⟩ := h
  exact ⟨by simp, fun k => ⟨v3, _, rfl, rfl, h3⟩⟩
theorem GMulti.fs_Symbols (y : GMulti) : FSt 1 y (fun z => (⟨y.Tapes, z, y.States, y.Rules⟩ : GMulti)) := by
  intro w c Bi h
  obtain ⟨v3, B3, rfl, rfl, h3⟩ := h
  exact ⟨by simp, fun k => ⟨v3, _, rfl, rfl, h3⟩⟩
theorem GMulti.fs_States (y : GMulti) : FSt 2 y (fun z => (⟨y.Tapes, y.Symbols, z, y.Rules⟩ : GMulti)) := by
  intro w c Bi h
  obtain ⟨v3, B3, rfl, rfl, h3⟩ := h
  exact ⟨by simp, fun k => ⟨v3, _, rfl, rfl, h3⟩⟩
theorem GMulti.fc_Rules (y : GMulti) : FC 3 y y.Rules (fun z => (⟨y.Tapes, y.Symbols, y.States, z⟩ : GMulti)) := by
  intro w c Bi h
  obtain ⟨v3, B3, rfl, rfl, h3⟩ := h
  refine ⟨v3, _, rfl, h3.ds, fun hn => ?_, fun b hb => hb, fun w' z' hz hn hf => ?_⟩
  · exact hn
  · exact ⟨v3, _, rfl, rfl, hz.dc⟩
theorem GMulti.zero {A : Nat → Prop} {w : World} : ∃ zc : List Value, (Value.agg #[.int .i64 0, .int .i64 0, .int .i64 0, .slice none 0 0]).cells = zc.toArray ∧ Rep.rdc A w zc (⟨0, 0, 0, []⟩ : GMulti) := ⟨[.int .i64 0, .int .i64 0, .int .i64 0, .slice none 0 0], rfl, _, rfl, rdNil⟩

-- Gl13Maker: struct Gl13Maker

structure Gl13Move where
  ok : Bool
  write : Int
  move : Int
  next : (List Int)
instance : DecidableEq Gl13Move := fun a b =>
  if h : a.ok = b.ok ∧ a.write = b.write ∧ a.move = b.move ∧ a.next = b.next then isTrue (by cases a; cases b; simp_all) else isFalse (by rintro rfl; simp at h)
instance : Rep Gl13Move where
  sz := 4
  agg := true
  rdc A w cs t := ∃ v3, cs = [.bool t.ok, .int .i64 t.write, .int .i64 t.move, v3] ∧ Rd A w v3 t.next
  len := by
    intro A w cs t h
    obtain ⟨v3, rfl, h3⟩ := h
    rfl
  one := by
    intro A w cs t h c hc
    obtain ⟨v3, rfl, h3⟩ := h
    simp only [List.mem_cons, List.not_mem_nil, or_false] at hc
    rcases hc with rfl | rfl | rfl | rfl
    · rfl
    · rfl
    · rfl
    · exact (Rd.sl h3).oneCell
  pos := by decide
  single h := by cases h
  frame := by
    intro A A' w w' cs t h hf
    obtain ⟨v3, rfl, h3⟩ := h
    exact ⟨v3, rfl, h3.frame hf⟩
  dc w cs t B := ∃ v3 B3, cs = [.bool t.ok, .int .i64 t.write, .int .i64 t.move, v3] ∧ B = B3 ∧ Dc w v3 t.next B3
  dcf := by
    intro w w' cs t B h hf
    obtain ⟨v3, B3, rfl, rfl, h3⟩ := h
    exact ⟨v3, _, rfl, rfl, h3.frame (fun b hb => hf b (by simp [hb]))⟩
  dcr := by
    intro A w cs t B h hA
    obtain ⟨v3, B3, rfl, rfl, h3⟩ := h
    exact ⟨v3, rfl, h3.rd (fun b hb => hA b (by simp [hb]))⟩
  dlt := by
    intro w cs t B h b hb
    obtain ⟨v3, B3, rfl, rfl, h3⟩ := h
    exact h3.lt b hb
  flat := false
  flt h := by cases h
theorem Gl13Move.rdmk {A : Nat → Prop} {w : World} {v0 : Value} {x0 : Bool} {v1 : Value} {x1 : Int} {v2 : Value} {x2 : Int} {v3 : Value} {x3 : (List Int)} (h0 : Rd A w v0 x0) (h1 : Rd A w v1 x1) (h2 : Rd A w v2 x2) (h3 : Rd A w v3 x3) : Rd A w (.agg #[v0, v1, v2, v3]) (⟨x0, x1, x2, x3⟩ : Gl13Move) := by
  have e0 := Rd.bool h0
  subst e0
  have e1 := Rd.int h1
  subst e1
  have e2 := Rd.int h2
  subst e2
  exact ⟨[_, _, _, _], rfl, v3, rfl, h3⟩
theorem Gl13Move.open {A : Nat → Prop} {w : World} {v : Value} {t : Gl13Move} (h : Rd A w v t) : ∃ v3, v = .agg #[.bool t.ok, .int .i64 t.write, .int .i64 t.move, v3] ∧ Rd A w v3 t.next := by
  obtain ⟨cs, e, h⟩ := h
  obtain ⟨v3, rfl, h3⟩ := h
  exact ⟨v3, e, h3⟩
theorem Gl13Move.opens (t : Gl13Move) : Opens t (fun x : Value => .agg #[.bool t.ok, .int .i64 t.write, .int .i64 t.move, x]) (fun x => [.rd x t.next]) := by
  intro A B w v h
  obtain ⟨v3, e, h3⟩ := Gl13Move.open h
  refine ⟨v3, e, ?_⟩
  intro f hf
  simp only [List.mem_cons, List.not_mem_nil, or_false] at hf
  rcases hf with rfl
  · exact ⟨⟨rfl, rfl⟩, h3⟩
theorem Gl13Move.at_ok (t : Gl13Move) : Part 0 t t.ok := by
  intro A w cs h
  obtain ⟨v3, rfl, h3⟩ := h
  refine ⟨[.bool t.ok], ?_, rfl⟩
  intro j u hj
  match j, hj with
  | 0, hj => simpa using hj
theorem Gl13Move.at_write (t : Gl13Move) : Part 1 t t.write := by
  intro A w cs h
  obtain ⟨v3, rfl, h3⟩ := h
  refine ⟨[.int .i64 t.write], ?_, rfl⟩
  intro j u hj
  match j, hj with
  | 0, hj => simpa using hj
theorem Gl13Move.at_move (t : Gl13Move) : Part 2 t t.move := by
  intro A w cs h
  obtain ⟨v3, rfl, h3⟩ := h
  refine ⟨[.int .i64 t.move], ?_, rfl⟩
  intro j u hj
  match j, hj with
  | 0, hj => simpa using hj
theorem Gl13Move.at_next (t : Gl13Move) : Part 3 t t.next := by
  intro A w cs h
  obtain ⟨v3, rfl, h3⟩ := h
  refine ⟨[v3], ?_, h3.cell rfl⟩
  intro j u hj
  match j, hj with
  | 0, hj => simpa using hj
theorem Gl13Move.nb {x0 : Bool} {x1 : Int} {x2 : Int} {x3 : (List Int)} (h3 : Nb x3) : Nb (⟨x0, x1, x2, x3⟩ : Gl13Move) := by
  intro A w cs h
  obtain ⟨v3, rfl, r3⟩ := h
  obtain ⟨c3, e3, q3⟩ := r3
  exact ⟨v3, [], rfl, rfl, ⟨c3, e3, h3 _ _ _ q3⟩⟩
theorem Gl13Move.dw {w : World} {x0 : Bool} {x1 : Int} {x2 : Int} {x3 : (List Int)} {v3 : Value} {C0 C1 : List Nat} (h3 : Dw w v3 x3 C0 C1) : Dw w (.agg #[.bool x0, .int .i64 x1, .int .i64 x2, v3]) (⟨x0, x1, x2, x3⟩ : Gl13Move) C0 C1 := by
  intro hn
  obtain ⟨B, a0, nd, mem, sub⟩ := h3 hn
  exact ⟨_, ⟨[.bool x0, .int .i64 x1, .int .i64 x2, v3], rfl, v3, B, rfl, rfl, a0⟩, nd, mem, sub⟩
theorem Gl13Move.fs_write (y : Gl13Move) : FSt 1 y (fun z => (⟨y.ok, z, y.move, y.next⟩ : Gl13Move)) := by
  intro w c Bi h
  obtain ⟨v3, B3, rfl, rfl, h3⟩ := h
  exact ⟨by simp, fun k => ⟨v3, _, rfl, rfl, h3⟩⟩
theorem Gl13Move.fs_move (y : Gl13Move) : FSt 2 y (fun z => (⟨y.ok, y.write, z, y.next⟩ : Gl13Move)) := by
  intro w c Bi h
  obtain ⟨v3, B3, rfl, rfl, h3⟩ := h
  exact ⟨by simp, fun k => ⟨v3, _, rfl, rfl, h3⟩⟩
theorem Gl13Move.fc_next (y : Gl13Move) : FC 3 y y.next (fun z => (⟨y.ok, y.write, y.move, z⟩ : Gl13Move)) := by
  intro w c Bi h
  obtain ⟨v3, B3, rfl, rfl, h3⟩ := h
  refine ⟨v3, _, rfl, h3.ds, fun hn => ?_, fun b hb => hb, fun w' z' hz hn hf => ?_⟩
  · exact hn
  · exact ⟨v3, _, rfl, rfl, hz.dc⟩
theorem Gl13Move.zero {A : Nat → Prop} {w : World} : ∃ zc : List Value, (Value.agg #[.bool false, .int .i64 0, .int .i64 0, .slice none 0 0]).cells = zc.toArray ∧ Rep.rdc A w zc (⟨false, 0, 0, []⟩ : Gl13Move) := ⟨[.bool false, .int .i64 0, .int .i64 0, .slice none 0 0], rfl, _, rfl, rdNil⟩

end Go.Fn
