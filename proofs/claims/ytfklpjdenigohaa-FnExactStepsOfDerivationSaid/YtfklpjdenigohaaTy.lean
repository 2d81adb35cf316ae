/-
  The structures of the program, as plain Lean data, and how they are laid in memory. No condition.
-/
import Derived.Test.YtfklpjdenigohaaPure
namespace Go.Fn
open Go Go.Tc

structure GConfig where
  State : Int
  Left : (List Int)
  Right : (List Int)
instance : DecidableEq GConfig := fun a b =>
  if h : a.State = b.State ∧ a.Left = b.Left ∧ a.Right = b.Right then isTrue (by cases a; cases b; simp_all) else isFalse (by rintro rfl; simp at h)
instance : Rep GConfig where
  sz := 3
  agg := true
  rdc A w cs t := ∃ v1 v2, cs = [.int .i64 t.State, v1, v2] ∧ Rd A w v1 t.Left ∧ Rd A w v2 t.Right
  len := by
    intro A w cs t h
    obtain ⟨v1, v2, rfl, h1, h2⟩ := h
    rfl
  one := by
    intro A w cs t h c hc
    obtain ⟨v1, v2, rfl, h1, h2⟩ := h
    simp only [List.mem_cons, List.not_mem_nil, or_false] at hc
    rcases hc with rfl | rfl | rfl
    · rfl
    · exact (Rd.sl h1).oneCell
    · exact (Rd.sl h2).oneCell
  pos := by decide
  single h := by cases h
  frame := by
    intro A A' w w' cs t h hf
    obtain ⟨v1, v2, rfl, h1, h2⟩ := h
    exact ⟨v1, v2, rfl, h1.frame hf, h2.frame hf⟩
  dc w cs t B := ∃ v1 v2 B1 B2, cs = [.int .i64 t.State, v1, v2] ∧ B = B1 ++ B2 ∧ Dc w v1 t.Left B1 ∧ Dc w v2 t.Right B2
  dcf := by
    intro w w' cs t B h hf
    obtain ⟨v1, v2, B1, B2, rfl, rfl, h1, h2⟩ := h
    exact ⟨v1, v2, _, _, rfl, rfl, h1.frame (fun b hb => hf b (by simp [hb])), h2.frame (fun b hb => hf b (by simp [hb]))⟩
  dcr := by
    intro A w cs t B h hA
    obtain ⟨v1, v2, B1, B2, rfl, rfl, h1, h2⟩ := h
    exact ⟨v1, v2, rfl, h1.rd (fun b hb => hA b (by simp [hb])), h2.rd (fun b hb => hA b (by simp [hb]))⟩
  dlt := by
    intro w cs t B h b hb
    obtain ⟨v1, v2, B1, B2, rfl, rfl, h1, h2⟩ := h
    simp only [List.append_assoc, List.mem_append] at hb
    rcases hb with hb | hb
    · exact h1.lt b hb
    · exact h2.lt b hb
  flat := false
  flt h := by cases h
theorem GConfig.rdmk {A : Nat → Prop} {w : World} {v0 : Value} {x0 : Int} {v1 : Value} {x1 : (List Int)} {v2 : Value} {x2 : (List Int)} (h0 : Rd A w v0 x0) (h1 : Rd A w v1 x1) (h2 : Rd A w v2 x2) : Rd A w (.agg #[v0, v1, v2]) (⟨x0, x1, x2⟩ : GConfig) := by
  have e0 := Rd.int h0
  subst e0
  exact ⟨[_, _, _], rfl, v1, v2, rfl, h1, h2⟩
theorem GConfig.open {A : Nat → Prop} {w : World} {v : Value} {t : GConfig} (h : Rd A w v t) : ∃ v1 v2, v = .agg #[.int .i64 t.State, v1, v2] ∧ Rd A w v1 t.Left ∧ Rd A w v2 t.Right := by
  obtain ⟨cs, e, h⟩ := h
  obtain ⟨v1, v2, rfl, h1, h2⟩ := h
  exact ⟨v1, v2, e, h1, h2⟩
theorem GConfig.opens (t : GConfig) : Opens t (fun x : Value × Value => .agg #[.int .i64 t.State, x.1, x.2]) (fun x => [.rd x.1 t.Left, .rd x.2 t.Right]) := by
  intro A B w v h
  obtain ⟨v1, v2, e, h1, h2⟩ := GConfig.open h
  refine ⟨(v1, v2), e, ?_⟩
  intro f hf
  simp only [List.mem_cons, List.not_mem_nil, or_false] at hf
  rcases hf with rfl | rfl
  · exact ⟨⟨rfl, rfl⟩, h1⟩
  · exact ⟨⟨rfl, rfl⟩, h2⟩
theorem GConfig.at_State (t : GConfig) : Part 0 t t.State := by
  intro A w cs h
  obtain ⟨v1, v2, rfl, h1, h2⟩ := h
  refine ⟨[.int .i64 t.State], ?_, rfl⟩
  intro j u hj
  match j, hj with
  | 0, hj => simpa using hj
theorem GConfig.at_Left (t : GConfig) : Part 1 t t.Left := by
  intro A w cs h
  obtain ⟨v1, v2, rfl, h1, h2⟩ := h
  refine ⟨[v1], ?_, h1.cell rfl⟩
  intro j u hj
  match j, hj with
  | 0, hj => simpa using hj
theorem GConfig.at_Right (t : GConfig) : Part 2 t t.Right := by
  intro A w cs h
  obtain ⟨v1, v2, rfl, h1, h2⟩ := h
  refine ⟨[v2], ?_, h2.cell rfl⟩
  intro j u hj
  match j, hj with
  | 0, hj => simpa using hj
theorem GConfig.nb {x0 : Int} {x1 : (List Int)} {x2 : (List Int)} (h1 : Nb x1) (h2 : Nb x2) : Nb (⟨x0, x1, x2⟩ : GConfig) := by
  intro A w cs h
  obtain ⟨v1, v2, rfl, r1, r2⟩ := h
  obtain ⟨c1, e1, q1⟩ := r1
  obtain ⟨c2, e2, q2⟩ := r2
  exact ⟨v1, v2, [], [], rfl, rfl, ⟨c1, e1, h1 _ _ _ q1⟩, ⟨c2, e2, h2 _ _ _ q2⟩⟩
theorem GConfig.dw {w : World} {x0 : Int} {x1 : (List Int)} {x2 : (List Int)} {v1 : Value} {v2 : Value} {C0 C1 C2 : List Nat} (h1 : Dw w v1 x1 C0 C1) (h2 : Dw w v2 x2 C1 C2) : Dw w (.agg #[.int .i64 x0, v1, v2]) (⟨x0, x1, x2⟩ : GConfig) C0 C2 := by
  intro hn
  obtain ⟨B1, B2, a0, a1, nd, mem, sub⟩ := h1.two h2 hn
  exact ⟨_, ⟨[.int .i64 x0, v1, v2], rfl, v1, v2, B1, B2, rfl, rfl, a0, a1⟩, nd, mem, sub⟩
theorem GConfig.fs_State (y : GConfig) : FSt 0 y (fun z => (⟨z, y.Left, y.Right⟩ : GConfig)) := by
  intro w c Bi h
  obtain ⟨v1, v2, B1, B2, rfl, rfl, h1, h2⟩ := h
  exact ⟨by simp, fun k => ⟨v1, v2, _, _, rfl, rfl, h1, h2⟩⟩
theorem GConfig.fc_Left (y : GConfig) : FC 1 y y.Left (fun z => (⟨y.State, z, y.Right⟩ : GConfig)) := by
  intro w c Bi h
  obtain ⟨v1, v2, B1, B2, rfl, rfl, h1, h2⟩ := h
  refine ⟨v1, _, rfl, h1.ds, fun hn => ?_, fun b hb => by simp [hb], fun w' z' hz hn hf => ?_⟩
  · simp only [List.nodup_append] at hn
    first | exact hn.1 | exact hn.2.1 | exact hn.1.1 | exact hn.1.2.1
  · exact ⟨v1, v2, _, _, rfl, rfl, hz.dc, h2.frame (fun b hb => hf b (by simp [hb]) (fun hm => by simp only [List.nodup_append, List.mem_append] at hn; grind))⟩
theorem GConfig.fc_Right (y : GConfig) : FC 2 y y.Right (fun z => (⟨y.State, y.Left, z⟩ : GConfig)) := by
  intro w c Bi h
  obtain ⟨v1, v2, B1, B2, rfl, rfl, h1, h2⟩ := h
  refine ⟨v2, _, rfl, h2.ds, fun hn => ?_, fun b hb => by simp [hb], fun w' z' hz hn hf => ?_⟩
  · simp only [List.nodup_append] at hn
    first | exact hn.1 | exact hn.2.1 | exact hn.1.1 | exact hn.1.2.1
  · exact ⟨v1, v2, _, _, rfl, rfl, h1.frame (fun b hb => hf b (by simp [hb]) (fun hm => by simp only [List.nodup_append, List.mem_append] at hn; grind)), hz.dc⟩
theorem GConfig.zero {A : Nat → Prop} {w : World} : ∃ zc : List Value, (Value.agg #[.int .i64 0, .slice none 0 0, .slice none 0 0]).cells = zc.toArray ∧ Rep.rdc A w zc (⟨0, [], []⟩ : GConfig) := ⟨[.int .i64 0, .slice none 0 0, .slice none 0 0], rfl, _, _, rfl, rdNil, rdNil⟩

structure GRule where
  Write : Int
  Move : Int
  Next : Int
instance : DecidableEq GRule := fun a b =>
  if h : a.Write = b.Write ∧ a.Move = b.Move ∧ a.Next = b.Next then isTrue (by cases a; cases b; simp_all) else isFalse (by rintro rfl; simp at h)
instance : Rep GRule where
  sz := 3
  agg := true
  rdc A w cs t := cs = [.int .i64 t.Write, .int .i64 t.Move, .int .i64 t.Next]
  len := by
    intro A w cs t h
    obtain rfl := h
    rfl
  one := by
    intro A w cs t h c hc
    obtain rfl := h
    simp only [List.mem_cons, List.not_mem_nil, or_false] at hc
    rcases hc with rfl | rfl | rfl
    · rfl
    · rfl
    · rfl
  pos := by decide
  single h := by cases h
  frame := by
    intro A A' w w' cs t h hf
    obtain rfl := h
    exact rfl
  dc _ cs t B := cs = [.int .i64 t.Write, .int .i64 t.Move, .int .i64 t.Next] ∧ B = []
  dcf h _ := h
  dcr h _ := h.1
  dlt h b hb := by simp [h.2] at hb
  flat := true
  flt _ h := ⟨h, rfl⟩
theorem GRule.rdmk {A : Nat → Prop} {w : World} {v0 : Value} {x0 : Int} {v1 : Value} {x1 : Int} {v2 : Value} {x2 : Int} (h0 : Rd A w v0 x0) (h1 : Rd A w v1 x1) (h2 : Rd A w v2 x2) : Rd A w (.agg #[v0, v1, v2]) (⟨x0, x1, x2⟩ : GRule) := by
  have e0 := Rd.int h0
  subst e0
  have e1 := Rd.int h1
  subst e1
  have e2 := Rd.int h2
  subst e2
  exact ⟨[_, _, _], rfl, rfl⟩
theorem GRule.open {A : Nat → Prop} {w : World} {v : Value} {t : GRule} (h : Rd A w v t) : v = .agg #[.int .i64 t.Write, .int .i64 t.Move, .int .i64 t.Next] := by
  obtain ⟨cs, e, h⟩ := h
  subst h
  exact e
theorem GRule.opens (t : GRule) : Opens t (fun _ : Unit => .agg #[.int .i64 t.Write, .int .i64 t.Move, .int .i64 t.Next]) (fun _ => []) := by
  intro A B w v h
  exact ⟨(), GRule.open h, by simp⟩
theorem GRule.at_Write (t : GRule) : Part 0 t t.Write := by
  intro A w cs h
  obtain rfl := h
  refine ⟨[.int .i64 t.Write], ?_, rfl⟩
  intro j u hj
  match j, hj with
  | 0, hj => simpa using hj
theorem GRule.at_Move (t : GRule) : Part 1 t t.Move := by
  intro A w cs h
  obtain rfl := h
  refine ⟨[.int .i64 t.Move], ?_, rfl⟩
  intro j u hj
  match j, hj with
  | 0, hj => simpa using hj
theorem GRule.at_Next (t : GRule) : Part 2 t t.Next := by
  intro A w cs h
  obtain rfl := h
  refine ⟨[.int .i64 t.Next], ?_, rfl⟩
  intro j u hj
  match j, hj with
  | 0, hj => simpa using hj
theorem GRule.nb {x : GRule} : Nb x := nb_flat rfl x
theorem GRule.dw {w : World} {x0 : Int} {x1 : Int} {x2 : Int} {C : List Nat} : Dw w (.agg #[.int .i64 x0, .int .i64 x1, .int .i64 x2]) (⟨x0, x1, x2⟩ : GRule) C C := fun _ => ⟨[], ⟨[.int .i64 x0, .int .i64 x1, .int .i64 x2], rfl, rfl, rfl⟩, by simp, by simp, List.Sublist.refl _⟩
theorem GRule.fs_Write (y : GRule) : FSt 0 y (fun z => (⟨z, y.Move, y.Next⟩ : GRule)) := by
  intro w c Bi h
  obtain ⟨rfl, rfl⟩ := h
  exact ⟨by simp, fun k => ⟨rfl, rfl⟩⟩
theorem GRule.fs_Move (y : GRule) : FSt 1 y (fun z => (⟨y.Write, z, y.Next⟩ : GRule)) := by
  intro w c Bi h
  obtain ⟨rfl, rfl⟩ := h
  exact ⟨by simp, fun k => ⟨rfl, rfl⟩⟩
theorem GRule.fs_Next (y : GRule) : FSt 2 y (fun z => (⟨y.Write, y.Move, z⟩ : GRule)) := by
  intro w c Bi h
  obtain ⟨rfl, rfl⟩ := h
  exact ⟨by simp, fun k => ⟨rfl, rfl⟩⟩
theorem GRule.zero {A : Nat → Prop} {w : World} : ∃ zc : List Value, (Value.agg #[.int .i64 0, .int .i64 0, .int .i64 0]).cells = zc.toArray ∧ Rep.rdc A w zc (⟨0, 0, 0⟩ : GRule) := ⟨[.int .i64 0, .int .i64 0, .int .i64 0], rfl, rfl⟩

structure GMachine where
  Symbols : Int
  States : Int
  Rules : (List GRule)
instance : Rep GMachine where
  sz := 3
  agg := true
  rdc A w cs t := ∃ v2, cs = [.int .i64 t.Symbols, .int .i64 t.States, v2] ∧ Rd A w v2 t.Rules
  len := by
    intro A w cs t h
    obtain ⟨v2, rfl, h2⟩ := h
    rfl
  one := by
    intro A w cs t h c hc
    obtain ⟨v2, rfl, h2⟩ := h
    simp only [List.mem_cons, List.not_mem_nil, or_false] at hc
    rcases hc with rfl | rfl | rfl
    · rfl
    · rfl
    · exact (Rd.sl h2).oneCell
  pos := by decide
  single h := by cases h
  frame := by
    intro A A' w w' cs t h hf
    obtain ⟨v2, rfl, h2⟩ := h
    exact ⟨v2, rfl, h2.frame hf⟩
  dc w cs t B := ∃ v2 B2, cs = [.int .i64 t.Symbols, .int .i64 t.States, v2] ∧ B = B2 ∧ Dc w v2 t.Rules B2
  dcf := by
    intro w w' cs t B h hf
    obtain ⟨v2, B2, rfl, rfl, h2⟩ := h
    exact ⟨v2, _, rfl, rfl, h2.frame (fun b hb => hf b (by simp [hb]))⟩
  dcr := by
    intro A w cs t B h hA
    obtain ⟨v2, B2, rfl, rfl, h2⟩ := h
    exact ⟨v2, rfl, h2.rd (fun b hb => hA b (by simp [hb]))⟩
  dlt := by
    intro w cs t B h b hb
    obtain ⟨v2, B2, rfl, rfl, h2⟩ := h
    exact h2.lt b hb
  flat := false
  flt h := by cases h
theorem GMachine.rdmk {A : Nat → Prop} {w : World} {v0 : Value} {x0 : Int} {v1 : Value} {x1 : Int} {v2 : Value} {x2 : (List GRule)} (h0 : Rd A w v0 x0) (h1 : Rd A w v1 x1) (h2 : Rd A w v2 x2) : Rd A w (.agg #[v0, v1, v2]) (⟨x0, x1, x2⟩ : GMachine) := by
  have e0 := Rd.int h0
  subst e0
  have e1 := Rd.int h1
  subst e1
  exact ⟨[_, _, _], rfl, v2, rfl, h2⟩
theorem GMachine.open {A : Nat → Prop} {w : World} {v : Value} {t : GMachine} (h : Rd A w v t) : ∃ v2, v = .agg #[.int .i64 t.Symbols, .int .i64 t.States, v2] ∧ Rd A w v2 t.Rules := by
  obtain ⟨cs, e, h⟩ := h
  obtain ⟨v2, rfl, h2⟩ := h
  exact ⟨v2, e, h2⟩
theorem GMachine.opens (t : GMachine) : Opens t (fun x : Value => .agg #[.int .i64 t.Symbols, .int .i64 t.States, x]) (fun x => [.rd x t.Rules]) := by
  intro A B w v h
  obtain ⟨v2, e, h2⟩ := GMachine.open h
  refine ⟨v2, e, ?_⟩
  intro f hf
  simp only [List.mem_cons, List.not_mem_nil, or_false] at hf
  rcases hf with rfl
  · exact ⟨⟨rfl, rfl⟩, h2⟩
theorem GMachine.at_Symbols (t : GMachine) : Part 0 t t.Symbols := by
  intro A w cs h
  obtain ⟨v2, rfl, h2⟩ := h
  refine ⟨[.int .i64 t.Symbols], ?_, rfl⟩
  intro j u hj
  match j, hj with
  | 0, hj => simpa using hj
theorem GMachine.at_States (t : GMachine) : Part 1 t t.States := by
  intro A w cs h
  obtain ⟨v2, rfl, h2⟩ := h
  refine ⟨[.int .i64 t.States], ?_, rfl⟩
  intro j u hj
  match j, hj with
  | 0, hj => simpa using hj
theorem GMachine.at_Rules (t : GMachine) : Part 2 t t.Rules := by
  intro A w cs h
  obtain ⟨v2, rfl, h2⟩ := h
  refine ⟨[v2], ?_, h2.cell rfl⟩
  intro j u hj
  match j, hj with
  | 0, hj => simpa using hj
theorem GMachine.nb {x0 : Int} {x1 : Int} {x2 : (List GRule)} (h2 : Nb x2) : Nb (⟨x0, x1, x2⟩ : GMachine) := by
  intro A w cs h
  obtain ⟨v2, rfl, r2⟩ := h
  obtain ⟨c2, e2, q2⟩ := r2
  exact ⟨v2, [], rfl, rfl, ⟨c2, e2, h2 _ _ _ q2⟩⟩
theorem GMachine.dw {w : World} {x0 : Int} {x1 : Int} {x2 : (List GRule)} {v2 : Value} {C0 C1 : List Nat} (h2 : Dw w v2 x2 C0 C1) : Dw w (.agg #[.int .i64 x0, .int .i64 x1, v2]) (⟨x0, x1, x2⟩ : GMachine) C0 C1 := by
  intro hn
  obtain ⟨B, a0, nd, mem, sub⟩ := h2 hn
  exact ⟨_, ⟨[.int .i64 x0, .int .i64 x1, v2], rfl, v2, B, rfl, rfl, a0⟩, nd, mem, sub⟩
theorem GMachine.fs_Symbols (y : GMachine) : FSt 0 y (fun z => (⟨z, y.States, y.Rules⟩ : GMachine)) := by
  intro w c Bi h
  obtain ⟨v2, B2, rfl, rfl, h2⟩ := h
  exact ⟨by simp, fun k => ⟨v2, _, rfl, rfl, h2⟩⟩
theorem GMachine.fs_States (y : GMachine) : FSt 1 y (fun z => (⟨y.Symbols, z, y.Rules⟩ : GMachine)) := by
  intro w c Bi h
  obtain ⟨v2, B2, rfl, rfl, h2⟩ := h
  exact ⟨by simp, fun k => ⟨v2, _, rfl, rfl, h2⟩⟩
theorem GMachine.fc_Rules (y : GMachine) : FC 2 y y.Rules (fun z => (⟨y.Symbols, y.States, z⟩ : GMachine)) := by
  intro w c Bi h
  obtain ⟨v2, B2, rfl, rfl, h2⟩ := h
  refine ⟨v2, _, rfl, h2.ds, fun hn => ?_, fun b hb => hb, fun w' z' hz hn hf => ?_⟩
  · exact hn
  · exact ⟨v2, _, rfl, rfl, hz.dc⟩
theorem GMachine.zero {A : Nat → Prop} {w : World} : ∃ zc : List Value, (Value.agg #[.int .i64 0, .int .i64 0, .slice none 0 0]).cells = zc.toArray ∧ Rep.rdc A w zc (⟨0, 0, []⟩ : GMachine) := ⟨[.int .i64 0, .int .i64 0, .slice none 0 0], rfl, _, rfl, rdNil⟩

structure GRewrite where
  From : (List Int)
  To : (List Int)
instance : DecidableEq GRewrite := fun a b =>
  if h : a.From = b.From ∧ a.To = b.To then isTrue (by cases a; cases b; simp_all) else isFalse (by rintro rfl; simp at h)
instance : Rep GRewrite where
  sz := 2
  agg := true
  rdc A w cs t := ∃ v0 v1, cs = [v0, v1] ∧ Rd A w v0 t.From ∧ Rd A w v1 t.To
  len := by
    intro A w cs t h
    obtain ⟨v0, v1, rfl, h0, h1⟩ := h
    rfl
  one := by
    intro A w cs t h c hc
    obtain ⟨v0, v1, rfl, h0, h1⟩ := h
    simp only [List.mem_cons, List.not_mem_nil, or_false] at hc
    rcases hc with rfl | rfl
    · exact (Rd.sl h0).oneCell
    · exact (Rd.sl h1).oneCell
  pos := by decide
  single h := by cases h
  frame := by
    intro A A' w w' cs t h hf
    obtain ⟨v0, v1, rfl, h0, h1⟩ := h
    exact ⟨v0, v1, rfl, h0.frame hf, h1.frame hf⟩
  dc w cs t B := ∃ v0 v1 B0 B1, cs = [v0, v1] ∧ B = B0 ++ B1 ∧ Dc w v0 t.From B0 ∧ Dc w v1 t.To B1
  dcf := by
    intro w w' cs t B h hf
    obtain ⟨v0, v1, B0, B1, rfl, rfl, h0, h1⟩ := h
    exact ⟨v0, v1, _, _, rfl, rfl, h0.frame (fun b hb => hf b (by simp [hb])), h1.frame (fun b hb => hf b (by simp [hb]))⟩
  dcr := by
    intro A w cs t B h hA
    obtain ⟨v0, v1, B0, B1, rfl, rfl, h0, h1⟩ := h
    exact ⟨v0, v1, rfl, h0.rd (fun b hb => hA b (by simp [hb])), h1.rd (fun b hb => hA b (by simp [hb]))⟩
  dlt := by
    intro w cs t B h b hb
    obtain ⟨v0, v1, B0, B1, rfl, rfl, h0, h1⟩ := h
    simp only [List.append_assoc, List.mem_append] at hb
    rcases hb with hb | hb
    · exact h0.lt b hb
    · exact h1.lt b hb
  flat := false
  flt h := by cases h
theorem GRewrite.rdmk {A : Nat → Prop} {w : World} {v0 : Value} {x0 : (List Int)} {v1 : Value} {x1 : (List Int)} (h0 : Rd A w v0 x0) (h1 : Rd A w v1 x1) : Rd A w (.agg #[v0, v1]) (⟨x0, x1⟩ : GRewrite) := by
  exact ⟨[_, _], rfl, v0, v1, rfl, h0, h1⟩
theorem GRewrite.open {A : Nat → Prop} {w : World} {v : Value} {t : GRewrite} (h : Rd A w v t) : ∃ v0 v1, v = .agg #[v0, v1] ∧ Rd A w v0 t.From ∧ Rd A w v1 t.To := by
  obtain ⟨cs, e, h⟩ := h
  obtain ⟨v0, v1, rfl, h0, h1⟩ := h
  exact ⟨v0, v1, e, h0, h1⟩
theorem GRewrite.opens (t : GRewrite) : Opens t (fun x : Value × Value => .agg #[x.1, x.2]) (fun x => [.rd x.1 t.From, .rd x.2 t.To]) := by
  intro A B w v h
  obtain ⟨v0, v1, e, h0, h1⟩ := GRewrite.open h
  refine ⟨(v0, v1), e, ?_⟩
  intro f hf
  simp only [List.mem_cons, List.not_mem_nil, or_false] at hf
  rcases hf with rfl | rfl
  · exact ⟨⟨rfl, rfl⟩, h0⟩
  · exact ⟨⟨rfl, rfl⟩, h1⟩
theorem GRewrite.at_From (t : GRewrite) : Part 0 t t.From := by
  intro A w cs h
  obtain ⟨v0, v1, rfl, h0, h1⟩ := h
  refine ⟨[v0], ?_, h0.cell rfl⟩
  intro j u hj
  match j, hj with
  | 0, hj => simpa using hj
theorem GRewrite.at_To (t : GRewrite) : Part 1 t t.To := by
  intro A w cs h
  obtain ⟨v0, v1, rfl, h0, h1⟩ := h
  refine ⟨[v1], ?_, h1.cell rfl⟩
  intro j u hj
  match j, hj with
  | 0, hj => simpa using hj
theorem GRewrite.nb {x0 : (List Int)} {x1 : (List Int)} (h0 : Nb x0) (h1 : Nb x1) : Nb (⟨x0, x1⟩ : GRewrite) := by
  intro A w cs h
  obtain ⟨v0, v1, rfl, r0, r1⟩ := h
  obtain ⟨c0, e0, q0⟩ := r0
  obtain ⟨c1, e1, q1⟩ := r1
  exact ⟨v0, v1, [], [], rfl, rfl, ⟨c0, e0, h0 _ _ _ q0⟩, ⟨c1, e1, h1 _ _ _ q1⟩⟩
theorem GRewrite.dw {w : World} {x0 : (List Int)} {x1 : (List Int)} {v0 : Value} {v1 : Value} {C0 C1 C2 : List Nat} (h0 : Dw w v0 x0 C0 C1) (h1 : Dw w v1 x1 C1 C2) : Dw w (.agg #[v0, v1]) (⟨x0, x1⟩ : GRewrite) C0 C2 := by
  intro hn
  obtain ⟨B1, B2, a0, a1, nd, mem, sub⟩ := h0.two h1 hn
  exact ⟨_, ⟨[v0, v1], rfl, v0, v1, B1, B2, rfl, rfl, a0, a1⟩, nd, mem, sub⟩
theorem GRewrite.fc_From (y : GRewrite) : FC 0 y y.From (fun z => (⟨z, y.To⟩ : GRewrite)) := by
  intro w c Bi h
  obtain ⟨v0, v1, B0, B1, rfl, rfl, h0, h1⟩ := h
  refine ⟨v0, _, rfl, h0.ds, fun hn => ?_, fun b hb => by simp [hb], fun w' z' hz hn hf => ?_⟩
  · simp only [List.nodup_append] at hn
    first | exact hn.1 | exact hn.2.1 | exact hn.1.1 | exact hn.1.2.1
  · exact ⟨v0, v1, _, _, rfl, rfl, hz.dc, h1.frame (fun b hb => hf b (by simp [hb]) (fun hm => by simp only [List.nodup_append, List.mem_append] at hn; grind))⟩
theorem GRewrite.fc_To (y : GRewrite) : FC 1 y y.To (fun z => (⟨y.From, z⟩ : GRewrite)) := by
  intro w c Bi h
  obtain ⟨v0, v1, B0, B1, rfl, rfl, h0, h1⟩ := h
  refine ⟨v1, _, rfl, h1.ds, fun hn => ?_, fun b hb => by simp [hb], fun w' z' hz hn hf => ?_⟩
  · simp only [List.nodup_append] at hn
    first | exact hn.1 | exact hn.2.1 | exact hn.1.1 | exact hn.1.2.1
  · exact ⟨v0, v1, _, _, rfl, rfl, h0.frame (fun b hb => hf b (by simp [hb]) (fun hm => by simp only [List.nodup_append, List.mem_append] at hn; grind)), hz.dc⟩
theorem GRewrite.zero {A : Nat → Prop} {w : World} : ∃ zc : List Value, (Value.agg #[.slice none 0 0, .slice none 0 0]).cells = zc.toArray ∧ Rep.rdc A w zc (⟨[], []⟩ : GRewrite) := ⟨[.slice none 0 0, .slice none 0 0], rfl, _, _, rfl, rdNil, rdNil⟩

structure GDomino where
  Top : (List Int)
  Bottom : (List Int)
instance : DecidableEq GDomino := fun a b =>
  if h : a.Top = b.Top ∧ a.Bottom = b.Bottom then isTrue (by cases a; cases b; simp_all) else isFalse (by rintro rfl; simp at h)
instance : Rep GDomino where
  sz := 2
  agg := true
  rdc A w cs t := ∃ v0 v1, cs = [v0, v1] ∧ Rd A w v0 t.Top ∧ Rd A w v1 t.Bottom
  len := by
    intro A w cs t h
    obtain ⟨v0, v1, rfl, h0, h1⟩ := h
    rfl
  one := by
    intro A w cs t h c hc
    obtain ⟨v0, v1, rfl, h0, h1⟩ := h
    simp only [List.mem_cons, List.not_mem_nil, or_false] at hc
    rcases hc with rfl | rfl
    · exact (Rd.sl h0).oneCell
    · exact (Rd.sl h1).oneCell
  pos := by decide
  single h := by cases h
  frame := by
    intro A A' w w' cs t h hf
    obtain ⟨v0, v1, rfl, h0, h1⟩ := h
    exact ⟨v0, v1, rfl, h0.frame hf, h1.frame hf⟩
  dc w cs t B := ∃ v0 v1 B0 B1, cs = [v0, v1] ∧ B = B0 ++ B1 ∧ Dc w v0 t.Top B0 ∧ Dc w v1 t.Bottom B1
  dcf := by
    intro w w' cs t B h hf
    obtain ⟨v0, v1, B0, B1, rfl, rfl, h0, h1⟩ := h
    exact ⟨v0, v1, _, _, rfl, rfl, h0.frame (fun b hb => hf b (by simp [hb])), h1.frame (fun b hb => hf b (by simp [hb]))⟩
  dcr := by
    intro A w cs t B h hA
    obtain ⟨v0, v1, B0, B1, rfl, rfl, h0, h1⟩ := h
    exact ⟨v0, v1, rfl, h0.rd (fun b hb => hA b (by simp [hb])), h1.rd (fun b hb => hA b (by simp [hb]))⟩
  dlt := by
    intro w cs t B h b hb
    obtain ⟨v0, v1, B0, B1, rfl, rfl, h0, h1⟩ := h
    simp only [List.append_assoc, List.mem_append] at hb
    rcases hb with hb | hb
    · exact h0.lt b hb
    · exact h1.lt b hb
  flat := false
  flt h := by cases h
theorem GDomino.rdmk {A : Nat → Prop} {w : World} {v0 : Value} {x0 : (List Int)} {v1 : Value} {x1 : (List Int)} (h0 : Rd A w v0 x0) (h1 : Rd A w v1 x1) : Rd A w (.agg #[v0, v1]) (⟨x0, x1⟩ : GDomino) := by
  exact ⟨[_, _], rfl, v0, v1, rfl, h0, h1⟩
theorem GDomino.open {A : Nat → Prop} {w : World} {v : Value} {t : GDomino} (h : Rd A w v t) : ∃ v0 v1, v = .agg #[v0, v1] ∧ Rd A w v0 t.Top ∧ Rd A w v1 t.Bottom := by
  obtain ⟨cs, e, h⟩ := h
  obtain ⟨v0, v1, rfl, h0, h1⟩ := h
  exact ⟨v0, v1, e, h0, h1⟩
theorem GDomino.opens (t : GDomino) : Opens t (fun x : Value × Value => .agg #[x.1, x.2]) (fun x => [.rd x.1 t.Top, .rd x.2 t.Bottom]) := by
  intro A B w v h
  obtain ⟨v0, v1, e, h0, h1⟩ := GDomino.open h
  refine ⟨(v0, v1), e, ?_⟩
  intro f hf
  simp only [List.mem_cons, List.not_mem_nil, or_false] at hf
  rcases hf with rfl | rfl
  · exact ⟨⟨rfl, rfl⟩, h0⟩
  · exact ⟨⟨rfl, rfl⟩, h1⟩
theorem GDomino.at_Top (t : GDomino) : Part 0 t t.Top := by
  intro A w cs h
  obtain ⟨v0, v1, rfl, h0, h1⟩ := h
  refine ⟨[v0], ?_, h0.cell rfl⟩
  intro j u hj
  match j, hj with
  | 0, hj => simpa using hj
theorem GDomino.at_Bottom (t : GDomino) : Part 1 t t.Bottom := by
  intro A w cs h
  obtain ⟨v0, v1, rfl, h0, h1⟩ := h
  refine ⟨[v1], ?_, h1.cell rfl⟩
  intro j u hj
  match j, hj with
  | 0, hj => simpa using hj
theorem GDomino.nb {x0 : (List Int)} {x1 : (List Int)} (h0 : Nb x0) (h1 : Nb x1) : Nb (⟨x0, x1⟩ : GDomino) := by
  intro A w cs h
  obtain ⟨v0, v1, rfl, r0, r1⟩ := h
  obtain ⟨c0, e0, q0⟩ := r0
  obtain ⟨c1, e1, q1⟩ := r1
  exact ⟨v0, v1, [], [], rfl, rfl, ⟨c0, e0, h0 _ _ _ q0⟩, ⟨c1, e1, h1 _ _ _ q1⟩⟩
theorem GDomino.dw {w : World} {x0 : (List Int)} {x1 : (List Int)} {v0 : Value} {v1 : Value} {C0 C1 C2 : List Nat} (h0 : Dw w v0 x0 C0 C1) (h1 : Dw w v1 x1 C1 C2) : Dw w (.agg #[v0, v1]) (⟨x0, x1⟩ : GDomino) C0 C2 := by
  intro hn
  obtain ⟨B1, B2, a0, a1, nd, mem, sub⟩ := h0.two h1 hn
  exact ⟨_, ⟨[v0, v1], rfl, v0, v1, B1, B2, rfl, rfl, a0, a1⟩, nd, mem, sub⟩
theorem GDomino.fc_Top (y : GDomino) : FC 0 y y.Top (fun z => (⟨z, y.Bottom⟩ : GDomino)) := by
  intro w c Bi h
  obtain ⟨v0, v1, B0, B1, rfl, rfl, h0, h1⟩ := h
  refine ⟨v0, _, rfl, h0.ds, fun hn => ?_, fun b hb => by simp [hb], fun w' z' hz hn hf => ?_⟩
  · simp only [List.nodup_append] at hn
    first | exact hn.1 | exact hn.2.1 | exact hn.1.1 | exact hn.1.2.1
  · exact ⟨v0, v1, _, _, rfl, rfl, hz.dc, h1.frame (fun b hb => hf b (by simp [hb]) (fun hm => by simp only [List.nodup_append, List.mem_append] at hn; grind))⟩
theorem GDomino.fc_Bottom (y : GDomino) : FC 1 y y.Bottom (fun z => (⟨y.Top, z⟩ : GDomino)) := by
  intro w c Bi h
  obtain ⟨v0, v1, B0, B1, rfl, rfl, h0, h1⟩ := h
  refine ⟨v1, _, rfl, h1.ds, fun hn => ?_, fun b hb => by simp [hb], fun w' z' hz hn hf => ?_⟩
  · simp only [List.nodup_append] at hn
    first | exact hn.1 | exact hn.2.1 | exact hn.1.1 | exact hn.1.2.1
  · exact ⟨v0, v1, _, _, rfl, rfl, h0.frame (fun b hb => hf b (by simp [hb]) (fun hm => by simp only [List.nodup_append, List.mem_append] at hn; grind)), hz.dc⟩
theorem GDomino.zero {A : Nat → Prop} {w : World} : ∃ zc : List Value, (Value.agg #[.slice none 0 0, .slice none 0 0]).cells = zc.toArray ∧ Rep.rdc A w zc (⟨[], []⟩ : GDomino) := ⟨[.slice none 0 0, .slice none 0 0], rfl, _, _, rfl, rdNil, rdNil⟩

structure Galphabet where
  state : Int
  border : Int
instance : DecidableEq Galphabet := fun a b =>
  if h : a.state = b.state ∧ a.border = b.border then isTrue (by cases a; cases b; simp_all) else isFalse (by rintro rfl; simp at h)
instance : Rep Galphabet where
  sz := 2
  agg := true
  rdc A w cs t := cs = [.int .i64 t.state, .int .i64 t.border]
  len := by
    intro A w cs t h
    obtain rfl := h
    rfl
  one := by
    intro A w cs t h c hc
    obtain rfl := h
    simp only [List.mem_cons, List.not_mem_nil, or_false] at hc
    rcases hc with rfl | rfl
    · rfl
    · rfl
  pos := by decide
  single h := by cases h
  frame := by
    intro A A' w w' cs t h hf
    obtain rfl := h
    exact rfl
  dc _ cs t B := cs = [.int .i64 t.state, .int .i64 t.border] ∧ B = []
  dcf h _ := h
  dcr h _ := h.1
  dlt h b hb := by simp [h.2] at hb
  flat := true
  flt _ h := ⟨h, rfl⟩
theorem Galphabet.rdmk {A : Nat → Prop} {w : World} {v0 : Value} {x0 : Int} {v1 : Value} {x1 : Int} (h0 : Rd A w v0 x0) (h1 : Rd A w v1 x1) : Rd A w (.agg #[v0, v1]) (⟨x0, x1⟩ : Galphabet) := by
  have e0 := Rd.int h0
  subst e0
  have e1 := Rd.int h1
  subst e1
  exact ⟨[_, _], rfl, rfl⟩
theorem Galphabet.open {A : Nat → Prop} {w : World} {v : Value} {t : Galphabet} (h : Rd A w v t) : v = .agg #[.int .i64 t.state, .int .i64 t.border] := by
  obtain ⟨cs, e, h⟩ := h
  subst h
  exact e
theorem Galphabet.opens (t : Galphabet) : Opens t (fun _ : Unit => .agg #[.int .i64 t.state, .int .i64 t.border]) (fun _ => []) := by
  intro A B w v h
  exact ⟨(), Galphabet.open h, by simp⟩
theorem Galphabet.at_state (t : Galphabet) : Part 0 t t.state := by
  intro A w cs h
  obtain rfl := h
  refine ⟨[.int .i64 t.state], ?_, rfl⟩
  intro j u hj
  match j, hj with
  | 0, hj => simpa using hj
theorem Galphabet.at_border (t : Galphabet) : Part 1 t t.border := by
  intro A w cs h
  obtain rfl := h
  refine ⟨[.int .i64 t.border], ?_, rfl⟩
  intro j u hj
  match j, hj with
  | 0, hj => simpa using hj
theorem Galphabet.nb {x : Galphabet} : Nb x := nb_flat rfl x
theorem Galphabet.dw {w : World} {x0 : Int} {x1 : Int} {C : List Nat} : Dw w (.agg #[.int .i64 x0, .int .i64 x1]) (⟨x0, x1⟩ : Galphabet) C C := fun _ => ⟨[], ⟨[.int .i64 x0, .int .i64 x1], rfl, rfl, rfl⟩, by simp, by simp, List.Sublist.refl _⟩
theorem Galphabet.fs_state (y : Galphabet) : FSt 0 y (fun z => (⟨z, y.border⟩ : Galphabet)) := by
  intro w c Bi h
  obtain ⟨rfl, rfl⟩ := h
  exact ⟨by simp, fun k => ⟨rfl, rfl⟩⟩
theorem Galphabet.fs_border (y : Galphabet) : FSt 1 y (fun z => (⟨y.state, z⟩ : Galphabet)) := by
  intro w c Bi h
  obtain ⟨rfl, rfl⟩ := h
  exact ⟨by simp, fun k => ⟨rfl, rfl⟩⟩
theorem Galphabet.zero {A : Nat → Prop} {w : World} : ∃ zc : List Value, (Value.agg #[.int .i64 0, .int .i64 0]).cells = zc.toArray ∧ Rep.rdc A w zc (⟨0, 0⟩ : Galphabet) := ⟨[.int .i64 0, .int .i64 0], rfl, rfl⟩

structure GTile where
  Left : Int
  Bottom : Int
  Right : Int
  Top : Int
instance : DecidableEq GTile := fun a b =>
  if h : a.Left = b.Left ∧ a.Bottom = b.Bottom ∧ a.Right = b.Right ∧ a.Top = b.Top then isTrue (by cases a; cases b; simp_all) else isFalse (by rintro rfl; simp at h)
instance : Rep GTile where
  sz := 4
  agg := true
  rdc A w cs t := cs = [.int .i64 t.Left, .int .i64 t.Bottom, .int .i64 t.Right, .int .i64 t.Top]
  len := by
    intro A w cs t h
    obtain rfl := h
    rfl
  one := by
    intro A w cs t h c hc
    obtain rfl := h
    simp only [List.mem_cons, List.not_mem_nil, or_false] at hc
    rcases hc with rfl | rfl | rfl | rfl
    · rfl
    · rfl
    · rfl
    · rfl
  pos := by decide
  single h := by cases h
  frame := by
    intro A A' w w' cs t h hf
    obtain rfl := h
    exact rfl
  dc _ cs t B := cs = [.int .i64 t.Left, .int .i64 t.Bottom, .int .i64 t.Right, .int .i64 t.Top] ∧ B = []
  dcf h _ := h
  dcr h _ := h.1
  dlt h b hb := by simp [h.2] at hb
  flat := true
  flt _ h := ⟨h, rfl⟩
theorem GTile.rdmk {A : Nat → Prop} {w : World} {v0 : Value} {x0 : Int} {v1 : Value} {x1 : Int} {v2 : Value} {x2 : Int} {v3 : Value} {x3 : Int} (h0 : Rd A w v0 x0) (h1 : Rd A w v1 x1) (h2 : Rd A w v2 x2) (h3 : Rd A w v3 x3) : Rd A w (.agg #[v0, v1, v2, v3]) (⟨x0, x1, x2, x3⟩ : GTile) := by
  have e0 := Rd.int h0
  subst e0
  have e1 := Rd.int h1
  subst e1
  have e2 := Rd.int h2
  subst e2
  have e3 := Rd.int h3
  subst e3
  exact ⟨[_, _, _, _], rfl, rfl⟩
theorem GTile.open {A : Nat → Prop} {w : World} {v : Value} {t : GTile} (h : Rd A w v t) : v = .agg #[.int .i64 t.Left, .int .i64 t.Bottom, .int .i64 t.Right, .int .i64 t.Top] := by
  obtain ⟨cs, e, h⟩ := h
  subst h
  exact e
theorem GTile.opens (t : GTile) : Opens t (fun _ : Unit => .agg #[.int .i64 t.Left, .int .i64 t.Bottom, .int .i64 t.Right, .int .i64 t.Top]) (fun _ => []) := by
  intro A B w v h
  exact ⟨(), GTile.open h, by simp⟩
theorem GTile.at_Left (t : GTile) : Part 0 t t.Left := by
  intro A w cs h
  obtain rfl := h
  refine ⟨[.int .i64 t.Left], ?_, rfl⟩
  intro j u hj
  match j, hj with
  | 0, hj => simpa using hj
theorem GTile.at_Bottom (t : GTile) : Part 1 t t.Bottom := by
  intro A w cs h
  obtain rfl := h
  refine ⟨[.int .i64 t.Bottom], ?_, rfl⟩
  intro j u hj
  match j, hj with
  | 0, hj => simpa using hj
theorem GTile.at_Right (t : GTile) : Part 2 t t.Right := by
  intro A w cs h
  obtain rfl := h
  refine ⟨[.int .i64 t.Right], ?_, rfl⟩
  intro j u hj
  match j, hj with
  | 0, hj => simpa using hj
theorem GTile.at_Top (t : GTile) : Part 3 t t.Top := by
  intro A w cs h
  obtain rfl := h
  refine ⟨[.int .i64 t.Top], ?_, rfl⟩
  intro j u hj
  match j, hj with
  | 0, hj => simpa using hj
theorem GTile.nb {x : GTile} : Nb x := nb_flat rfl x
theorem GTile.dw {w : World} {x0 : Int} {x1 : Int} {x2 : Int} {x3 : Int} {C : List Nat} : Dw w (.agg #[.int .i64 x0, .int .i64 x1, .int .i64 x2, .int .i64 x3]) (⟨x0, x1, x2, x3⟩ : GTile) C C := fun _ => ⟨[], ⟨[.int .i64 x0, .int .i64 x1, .int .i64 x2, .int .i64 x3], rfl, rfl, rfl⟩, by simp, by simp, List.Sublist.refl _⟩
theorem GTile.fs_Left (y : GTile) : FSt 0 y (fun z => (⟨z, y.Bottom, y.Right, y.Top⟩ : GTile)) := by
  intro w c Bi h
  obtain ⟨rfl, rfl⟩ := h
  exact ⟨by simp, fun k => ⟨rfl, rfl⟩⟩
theorem GTile.fs_Bottom (y : GTile) : FSt 1 y (fun z => (⟨y.Left, z, y.Right, y.Top⟩ : GTile)) := by
  intro w c Bi h
  obtain ⟨rfl, rfl⟩ := h
  exact ⟨by simp, fun k => ⟨rfl, rfl⟩⟩
theorem GTile.fs_Right (y : GTile) : FSt 2 y (fun z => (⟨y.Left, y.Bottom, z, y.Top⟩ : GTile)) := by
  intro w c Bi h
  obtain ⟨rfl, rfl⟩ := h
  exact ⟨by simp, fun k => ⟨rfl, rfl⟩⟩
theorem GTile.fs_Top (y : GTile) : FSt 3 y (fun z => (⟨y.Left, y.Bottom, y.Right, z⟩ : GTile)) := by
  intro w c Bi h
  obtain ⟨rfl, rfl⟩ := h
  exact ⟨by simp, fun k => ⟨rfl, rfl⟩⟩
theorem GTile.zero {A : Nat → Prop} {w : World} : ∃ zc : List Value, (Value.agg #[.int .i64 0, .int .i64 0, .int .i64 0, .int .i64 0]).cells = zc.toArray ∧ Rep.rdc A w zc (⟨0, 0, 0, 0⟩ : GTile) := ⟨[.int .i64 0, .int .i64 0, .int .i64 0, .int .i64 0], rfl, rfl⟩

end Go.Fn
