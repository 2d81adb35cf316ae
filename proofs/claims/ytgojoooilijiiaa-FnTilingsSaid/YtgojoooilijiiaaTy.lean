/-
  The structures of the program, as plain Lean data, and how they are laid in memory. No condition.
-/
import Derived.Test.YtgojoooilijiiaaPure
namespace Go.Fn
open Go Go.Tc

structure GRule where
  Write : Int
  Move : Int
  Next : Int
instance : DecidableEq GRule := fun a b =>
  if h : a.Write = b.Write ∧ a.Move = b.Move ∧ a.Next = b.Next then isTrue (by cases a; cases b; simp_all) else isFalse (by rintro rfl; simp at h)
instance : Rep GRule where
  sz := 3
  agg := true
  rdc A w cs t := cs = [.int .i64 t.Write, .int .i64 t.Move, .int .i64 t.Next]
  len := by
    intro A w cs t h
    obtain rfl := h
    rfl
  one := by
    intro A w cs t h c hc
    obtain rfl := h
    simp only [List.mem_cons, List.not_mem_nil, or_false] at hc
    rcases hc with rfl | rfl | rfl
    · rfl
    · rfl
    · rfl
  pos := by decide
  single h := by cases h
  frame := by
    intro A A' w w' cs t h hf
    obtain rfl := h
    exact rfl
  dc _ cs t B := cs = [.int .i64 t.Write, .int .i64 t.Move, .int .i64 t.Next] ∧ B = []
  dcf h _ := h
  dcr h _ := h.1
  dlt h b hb := by simp [h.2] at hb
  flat := true
  flt _ h := ⟨h, rfl⟩
theorem GRule.rdmk {A : Nat → Prop} {w : World} {v0 : Value} {x0 : Int} {v1 : Value} {x1 : Int} {v2 : Value} {x2 : Int} (h0 : Rd A w v0 x0) (h1 : Rd A w v1 x1) (h2 : Rd A w v2 x2) : Rd A w (.agg #[v0, v1, v2]) (⟨x0, x1, x2⟩ : GRule) := by
  have e0 := Rd.int h0
  subst e0
  have e1 := Rd.int h1
  subst e1
  have e2 := Rd.int h2
  subst e2
  exact ⟨[_, _, _], rfl, rfl⟩
theorem GRule.open {A : Nat → Prop} {w : World} {v : Value} {t : GRule} (h : Rd A w v t) : v = .agg #[.int .i64 t.Write, .int .i64 t.Move, .int .i64 t.Next] := by
  obtain ⟨cs, e, h⟩ := h
  subst h
  exact e
theorem GRule.opens (t : GRule) : Opens t (fun _ : Unit => .agg #[.int .i64 t.Write, .int .i64 t.Move, .int .i64 t.Next]) (fun _ => []) := by
  intro A B w v h
  exact ⟨(), GRule.open h, by simp⟩
theorem GRule.at_Write (t : GRule) : Part 0 t t.Write := by
  intro A w cs h
  obtain rfl := h
  refine ⟨[.int .i64 t.Write], ?_, rfl⟩
  intro j u hj
  match j, hj with
  | 0, hj => simpa using hj
theorem GRule.at_Move (t : GRule) : Part 1 t t.Move := by
  intro A w cs h
  obtain rfl := h
  refine ⟨[.int .i64 t.Move], ?_, rfl⟩
  intro j u hj
  match j, hj with
  | 0, hj => simpa using hj
theorem GRule.at_Next (t : GRule) : Part 2 t t.Next := by
  intro A w cs h
  obtain rfl := h
  refine ⟨[.int .i64 t.Next], ?_, rfl⟩
  intro j u hj
  match j, hj with
  | 0, hj => simpa using hj
def GRule.enc (t : GRule) : Value := .agg #[.int .i64 t.Write, .int .i64 t.Move, .int .i64 t.Next]
theorem GRule.nb {x : GRule} : Nb x := nb_flat rfl x
theorem GRule.dw {w : World} {x0 : Int} {x1 : Int} {x2 : Int} {C : List Nat} : Dw w (.agg #[.int .i64 x0, .int .i64 x1, .int .i64 x2]) (⟨x0, x1, x2⟩ : GRule) C C := fun _ => ⟨[], ⟨[.int .i64 x0, .int .i64 x1, .int .i64 x2], rfl, rfl, rfl⟩, by simp, by simp, List.Sublist.refl _⟩
theorem GRule.sp_Write (y : GRule) : SP 0 y (fun z => (⟨z, y.Move, y.Next⟩ : GRule)) := by
  intro A w c h
  obtain rfl := h
  exact ⟨by simp, fun k => rfl⟩
theorem GRule.fs_Write (y : GRule) : FSt 0 y (fun z => (⟨z, y.Move, y.Next⟩ : GRule)) := by
  intro w c Bi h
  obtain ⟨rfl, rfl⟩ := h
  exact ⟨by simp, fun k => ⟨rfl, rfl⟩⟩
theorem GRule.sp_Move (y : GRule) : SP 1 y (fun z => (⟨y.Write, z, y.Next⟩ : GRule)) := by
  intro A w c h
  obtain rfl := h
  exact ⟨by simp, fun k => rfl⟩
theorem GRule.fs_Move (y : GRule) : FSt 1 y (fun z => (⟨y.Write, z, y.Next⟩ : GRule)) := by
  intro w c Bi h
  obtain ⟨rfl, rfl⟩ := h
  exact ⟨by simp, fun k => ⟨rfl, rfl⟩⟩
theorem GRule.sp_Next (y : GRule) : SP 2 y (fun z => (⟨y.Write, y.Move, z⟩ : GRule)) := by
  intro A w c h
  obtain rfl := h
  exact ⟨by simp, fun k => rfl⟩
theorem GRule.fs_Next (y : GRule) : FSt 2 y (fun z => (⟨y.Write, y.Move, z⟩ : GRule)) := by
  intro w c Bi h
  obtain ⟨rfl, rfl⟩ := h
  exact ⟨by simp, fun k => ⟨rfl, rfl⟩⟩
theorem GRule.zero {A : Nat → Prop} {w : World} : ∃ zc : List Value, (Value.agg #[.int .i64 0, .int .i64 0, .int .i64 0]).cells = zc.toArray ∧ Rep.rdc A w zc (⟨0, 0, 0⟩ : GRule) := ⟨[.int .i64 0, .int .i64 0, .int .i64 0], rfl, rfl⟩

structure GMachine where
  Symbols : Int
  States : Int
  Rules : (List GRule)
instance : Rep GMachine where
  sz := 3
  agg := true
  rdc A w cs t := ∃ v2, cs = [.int .i64 t.Symbols, .int .i64 t.States, v2] ∧ Rd A w v2 t.Rules
  len := by
    intro A w cs t h
    obtain ⟨v2, rfl, h2⟩ := h
    rfl
  one := by
    intro A w cs t h c hc
    obtain ⟨v2, rfl, h2⟩ := h
    simp only [List.mem_cons, List.not_mem_nil, or_false] at hc
    rcases hc with rfl | rfl | rfl
    · rfl
    · rfl
    · exact (Rd.sl h2).oneCell
  pos := by decide
  single h := by cases h
  frame := by
    intro A A' w w' cs t h hf
    obtain ⟨v2, rfl, h2⟩ := h
    exact ⟨v2, rfl, h2.frame hf⟩
  dc w cs t B := ∃ v2 B2, cs = [.int .i64 t.Symbols, .int .i64 t.States, v2] ∧ B = B2 ∧ Dc w v2 t.Rules B2
  dcf := by
    intro w w' cs t B h hf
    obtain ⟨v2, B2, rfl, rfl, h2⟩ := h
    exact ⟨v2, _, rfl, rfl, h2.frame (fun b hb => hf b (by simp [hb]))⟩
  dcr := by
    intro A w cs t B h hA
    obtain ⟨v2, B2, rfl, rfl, h2⟩ := h
    exact ⟨v2, rfl, h2.rd (fun b hb => hA b (by simp [hb]))⟩
  dlt := by
    intro w cs t B h b hb
    obtain ⟨v2, B2, rfl, rfl, h2⟩ := h
    exact h2.lt b hb
  flat := false
  flt h := by cases h
theorem GMachine.rdmk {A : Nat → Prop} {w : World} {v0 : Value} {x0 : Int} {v1 : Value} {x1 : Int} {v2 : Value} {x2 : (List GRule)} (h0 : Rd A w v0 x0) (h1 : Rd A w v1 x1) (h2 : Rd A w v2 x2) : Rd A w (.agg #[v0, v1, v2]) (⟨x0, x1, x2⟩ : GMachine) := by
  have e0 := Rd.int h0
  subst e0
  have e1 := Rd.int h1
  subst e1
  exact ⟨[_, _, _], rfl, v2, rfl, h2⟩
theorem GMachine.open {A : Nat → Prop} {w : World} {v : Value} {t : GMachine} (h : Rd A w v t) : ∃ v2, v = .agg #[.int .i64 t.Symbols, .int .i64 t.States, v2] ∧ Rd A w v2 t.Rules := by
  obtain ⟨cs, e, h⟩ := h
  obtain ⟨v2, rfl, h2⟩ := h
  exact ⟨v2, e, h2⟩
theorem GMachine.opens (t : GMachine) : Opens t (fun x : Value => .agg #[.int .i64 t.Symbols, .int .i64 t.States, x]) (fun x => [.rd x t.Rules]) := by
  intro A B w v h
  obtain ⟨v2, e, h2⟩ := GMachine.open h
  refine ⟨v2, e, ?_⟩
  intro f hf
  simp only [List.mem_cons, List.not_mem_nil, or_false] at hf
  rcases hf with rfl
  · exact ⟨⟨rfl, rfl⟩, h2⟩
theorem GMachine.opT (t : Tk GMachine) {y : GMachine} (hy : t.x = y) : Opens t (fun x : Value => .agg #[.int .i64 y.Symbols, .int .i64 y.States, x]) (fun x => [.rd x (⟨y.Rules, t.B⟩ : Tk (List GRule))]) := by
  subst hy
  intro A B w v h
  obtain ⟨cs, e, ⟨v2, B2, rfl, hB, h2⟩, hA⟩ := h
  subst hB
  obtain ⟨cs2, e2, h2⟩ := h2
  refine ⟨v2, e, ?_⟩
  intro f hf
  simp only [List.mem_cons, List.not_mem_nil, or_false] at hf
  rcases hf with rfl
  exact ⟨⟨rfl, rfl⟩, cs2, e2, h2, hA⟩
theorem GMachine.at_Symbols (t : GMachine) : Part 0 t t.Symbols := by
  intro A w cs h
  obtain ⟨v2, rfl, h2⟩ := h
  refine ⟨[.int .i64 t.Symbols], ?_, rfl⟩
  intro j u hj
  match j, hj with
  | 0, hj => simpa using hj
theorem GMachine.at_States (t : GMachine) : Part 1 t t.States := by
  intro A w cs h
  obtain ⟨v2, rfl, h2⟩ := h
  refine ⟨[.int .i64 t.States], ?_, rfl⟩
  intro j u hj
  match j, hj with
  | 0, hj => simpa using hj
theorem GMachine.at_Rules (t : GMachine) : Part 2 t t.Rules := by
  intro A w cs h
  obtain ⟨v2, rfl, h2⟩ := h
  refine ⟨[v2], ?_, h2.cell rfl⟩
  intro j u hj
  match j, hj with
  | 0, hj => simpa using hj
theorem GMachine.nb {x0 : Int} {x1 : Int} {x2 : (List GRule)} (h2 : Nb x2) : Nb (⟨x0, x1, x2⟩ : GMachine) := by
  intro A w cs h
  obtain ⟨v2, rfl, r2⟩ := h
  obtain ⟨c2, e2, q2⟩ := r2
  exact ⟨v2, [], rfl, rfl, ⟨c2, e2, h2 _ _ _ q2⟩⟩
theorem GMachine.dw {w : World} {x0 : Int} {x1 : Int} {x2 : (List GRule)} {v2 : Value} {C0 C1 : List Nat} (h2 : Dw w v2 x2 C0 C1) : Dw w (.agg #[.int .i64 x0, .int .i64 x1, v2]) (⟨x0, x1, x2⟩ : GMachine) C0 C1 := by
  intro hn
  obtain ⟨B, a0, nd, mem, sub⟩ := h2 hn
  exact ⟨_, ⟨[.int .i64 x0, .int .i64 x1, v2], rfl, v2, B, rfl, rfl, a0⟩, nd, mem, sub⟩
theorem GMachine.sp_Symbols (y : GMachine) : SP 0 y (fun z => (⟨z, y.States, y.Rules⟩ : GMachine)) := by
  intro A w c h
  obtain ⟨v2, rfl, h2⟩ := h
  exact ⟨by simp, fun k => ⟨v2, rfl, h2⟩⟩
theorem GMachine.fs_Symbols (y : GMachine) : FSt 0 y (fun z => (⟨z, y.States, y.Rules⟩ : GMachine)) := by
  intro w c Bi h
  obtain ⟨v2, B2, rfl, rfl, h2⟩ := h
  exact ⟨by simp, fun k => ⟨v2, _, rfl, rfl, h2⟩⟩
theorem GMachine.sp_States (y : GMachine) : SP 1 y (fun z => (⟨y.Symbols, z, y.Rules⟩ : GMachine)) := by
  intro A w c h
  obtain ⟨v2, rfl, h2⟩ := h
  exact ⟨by simp, fun k => ⟨v2, rfl, h2⟩⟩
theorem GMachine.fs_States (y : GMachine) : FSt 1 y (fun z => (⟨y.Symbols, z, y.Rules⟩ : GMachine)) := by
  intro w c Bi h
  obtain ⟨v2, B2, rfl, rfl, h2⟩ := h
  exact ⟨by simp, fun k => ⟨v2, _, rfl, rfl, h2⟩⟩
theorem GMachine.fc_Rules (y : GMachine) : FC 2 y y.Rules (fun z => (⟨y.Symbols, y.States, z⟩ : GMachine)) := by
  intro w c Bi h
  obtain ⟨v2, B2, rfl, rfl, h2⟩ := h
  refine ⟨v2, _, rfl, h2.ds, fun hn => ?_, fun b hb => hb, fun w' z' hz hn hf => ?_⟩
  · exact hn
  · exact ⟨v2, _, rfl, rfl, hz.dc⟩
theorem GMachine.zero {A : Nat → Prop} {w : World} : ∃ zc : List Value, (Value.agg #[.int .i64 0, .int .i64 0, .slice none 0 0]).cells = zc.toArray ∧ Rep.rdc A w zc (⟨0, 0, []⟩ : GMachine) := ⟨[.int .i64 0, .int .i64 0, .slice none 0 0], rfl, _, rfl, rdNil⟩

structure GConfig where
  State : Int
  Left : (List Int)
  Right : (List Int)
instance : DecidableEq GConfig := fun a b =>
  if h : a.State = b.State ∧ a.Left = b.Left ∧ a.Right = b.Right then isTrue (by cases a; cases b; simp_all) else isFalse (by rintro rfl; simp at h)
instance : Rep GConfig where
  sz := 3
  agg := true
  rdc A w cs t := ∃ v1 v2, cs = [.int .i64 t.State, v1, v2] ∧ Rd A w v1 t.Left ∧ Rd A w v2 t.Right
  len := by
    intro A w cs t h
    obtain ⟨v1, v2, rfl, h1, h2⟩ := h
    rfl
  one := by
    intro A w cs t h c hc
    obtain ⟨v1, v2, rfl, h1, h2⟩ := h
    simp only [List.mem_cons, List.not_mem_nil, or_false] at hc
    rcases hc with rfl | rfl | rfl
    · rfl
    · exact (Rd.sl h1).oneCell
    · exact (Rd.sl h2).oneCell
  pos := by decide
  single h := by cases h
  frame := by
    intro A A' w w' cs t h hf
    obtain ⟨v1, v2, rfl, h1, h2⟩ := h
    exact ⟨v1, v2, rfl, h1.frame hf, h2.frame hf⟩
  dc w cs t B := ∃ v1 v2 B1 B2, cs = [.int .i64 t.State, v1, v2] ∧ B = B1 ++ B2 ∧ Dc w v1 t.Left B1 ∧ Dc w v2 t.Right B2
  dcf := by
    intro w w' cs t B h hf
    obtain ⟨v1, v2, B1, B2, rfl, rfl, h1, h2⟩ := h
    exact ⟨v1, v2, _, _, rfl, rfl, h1.frame (fun b hb => hf b (by simp [hb])), h2.frame (fun b hb => hf b (by simp [hb]))⟩
  dcr := by
    intro A w cs t B h hA
    obtain ⟨v1, v2, B1, B2, rfl, rfl, h1, h2⟩ := h
    exact ⟨v1, v2, rfl, h1.rd (fun b hb => hA b (by simp [hb])), h2.rd (fun b hb => hA b (by simp [hb]))⟩
  dlt := by
    intro w cs t B h b hb
    obtain ⟨v1, v2, B1, B2, rfl, rfl, h1, h2⟩ := h
    simp only [List.append_assoc, List.mem_append] at hb
    rcases hb with hb | hb
    · exact h1.lt b hb
    · exact h2.lt b hb
  flat := false
  flt h := by cases h
theorem GConfig.rdmk {A : Nat → Prop} {w : World} {v0 : Value} {x0 : Int} {v1 : Value} {x1 : (List Int)} {v2 : Value} {x2 : (List Int)} (h0 : Rd A w v0 x0) (h1 : Rd A w v1 x1) (h2 : Rd A w v2 x2) : Rd A w (.agg #[v0, v1, v2]) (⟨x0, x1, x2⟩ : GConfig) := by
  have e0 := Rd.int h0
  subst e0
  exact ⟨[_, _, _], rfl, v1, v2, rfl, h1, h2⟩
theorem GConfig.open {A : Nat → Prop} {w : World} {v : Value} {t : GConfig} (h : Rd A w v t) : ∃ v1 v2, v = .agg #[.int .i64 t.State, v1, v2] ∧ Rd A w v1 t.Left ∧ Rd A w v2 t.Right := by
  obtain ⟨cs, e, h⟩ := h
  obtain ⟨v1, v2, rfl, h1, h2⟩ := h
  exact ⟨v1, v2, e, h1, h2⟩
theorem GConfig.opens (t : GConfig) : Opens t (fun x : Value × Value => .agg #[.int .i64 t.State, x.1, x.2]) (fun x => [.rd x.1 t.Left, .rd x.2 t.Right]) := by
  intro A B w v h
  obtain ⟨v1, v2, e, h1, h2⟩ := GConfig.open h
  refine ⟨(v1, v2), e, ?_⟩
  intro f hf
  simp only [List.mem_cons, List.not_mem_nil, or_false] at hf
  rcases hf with rfl | rfl
  · exact ⟨⟨rfl, rfl⟩, h1⟩
  · exact ⟨⟨rfl, rfl⟩, h2⟩
theorem GConfig.at_State (t : GConfig) : Part 0 t t.State := by
  intro A w cs h
  obtain ⟨v1, v2, rfl, h1, h2⟩ := h
  refine ⟨[.int .i64 t.State], ?_, rfl⟩
  intro j u hj
  match j, hj with
  | 0, hj => simpa using hj
theorem GConfig.at_Left (t : GConfig) : Part 1 t t.Left := by
  intro A w cs h
  obtain ⟨v1, v2, rfl, h1, h2⟩ := h
  refine ⟨[v1], ?_, h1.cell rfl⟩
  intro j u hj
  match j, hj with
  | 0, hj => simpa using hj
theorem GConfig.at_Right (t : GConfig) : Part 2 t t.Right := by
  intro A w cs h
  obtain ⟨v1, v2, rfl, h1, h2⟩ := h
  refine ⟨[v2], ?_, h2.cell rfl⟩
  intro j u hj
  match j, hj with
  | 0, hj => simpa using hj
theorem GConfig.nb {x0 : Int} {x1 : (List Int)} {x2 : (List Int)} (h1 : Nb x1) (h2 : Nb x2) : Nb (⟨x0, x1, x2⟩ : GConfig) := by
  intro A w cs h
  obtain ⟨v1, v2, rfl, r1, r2⟩ := h
  obtain ⟨c1, e1, q1⟩ := r1
  obtain ⟨c2, e2, q2⟩ := r2
  exact ⟨v1, v2, [], [], rfl, rfl, ⟨c1, e1, h1 _ _ _ q1⟩, ⟨c2, e2, h2 _ _ _ q2⟩⟩
theorem GConfig.dw {w : World} {x0 : Int} {x1 : (List Int)} {x2 : (List Int)} {v1 : Value} {v2 : Value} {C0 C1 C2 : List Nat} (h1 : Dw w v1 x1 C0 C1) (h2 : Dw w v2 x2 C1 C2) : Dw w (.agg #[.int .i64 x0, v1, v2]) (⟨x0, x1, x2⟩ : GConfig) C0 C2 := by
  intro hn
  obtain ⟨B1, B2, a0, a1, nd, mem, sub⟩ := h1.two h2 hn
  exact ⟨_, ⟨[.int .i64 x0, v1, v2], rfl, v1, v2, B1, B2, rfl, rfl, a0, a1⟩, nd, mem, sub⟩
theorem GConfig.sp_State (y : GConfig) : SP 0 y (fun z => (⟨z, y.Left, y.Right⟩ : GConfig)) := by
  intro A w c h
  obtain ⟨v1, v2, rfl, h1, h2⟩ := h
  exact ⟨by simp, fun k => ⟨v1, v2, rfl, h1, h2⟩⟩
theorem GConfig.fs_State (y : GConfig) : FSt 0 y (fun z => (⟨z, y.Left, y.Right⟩ : GConfig)) := by
  intro w c Bi h
  obtain ⟨v1, v2, B1, B2, rfl, rfl, h1, h2⟩ := h
  exact ⟨by simp, fun k => ⟨v1, v2, _, _, rfl, rfl, h1, h2⟩⟩
theorem GConfig.fc_Left (y : GConfig) : FC 1 y y.Left (fun z => (⟨y.State, z, y.Right⟩ : GConfig)) := by
  intro w c Bi h
  obtain ⟨v1, v2, B1, B2, rfl, rfl, h1, h2⟩ := h
  refine ⟨v1, _, rfl, h1.ds, fun hn => ?_, fun b hb => by simp [hb], fun w' z' hz hn hf => ?_⟩
  · simp only [List.nodup_append] at hn
    first | exact hn.1 | exact hn.2.1 | exact hn.1.1 | exact hn.1.2.1
  · exact ⟨v1, v2, _, _, rfl, rfl, hz.dc, h2.frame (fun b hb => hf b (by simp [hb]) (fun hm => by simp only [List.nodup_append, List.mem_append] at hn; grind))⟩
theorem GConfig.fc_Right (y : GConfig) : FC 2 y y.Right (fun z => (⟨y.State, y.Left, z⟩ : GConfig)) := by
  intro w c Bi h
  obtain ⟨v1, v2, B1, B2, rfl, rfl, h1, h2⟩ := h
  refine ⟨v2, _, rfl, h2.ds, fun hn => ?_, fun b hb => by simp [hb], fun w' z' hz hn hf => ?_⟩
  · simp only [List.nodup_append] at hn
    first | exact hn.1 | exact hn.2.1 | exact hn.1.1 | exact hn.1.2.1
  · exact ⟨v1, v2, _, _, rfl, rfl, h1.frame (fun b hb => hf b (by simp [hb]) (fun hm => by simp only [List.nodup_append, List.mem_append] at hn; grind)), hz.dc⟩
theorem GConfig.zero {A : Nat → Prop} {w : World} : ∃ zc : List Value, (Value.agg #[.int .i64 0, .slice none 0 0, .slice none 0 0]).cells = zc.toArray ∧ Rep.rdc A w zc (⟨0, [], []⟩ : GConfig) := ⟨[.int .i64 0, .slice none 0 0, .slice none 0 0], rfl, _, _, rfl, rdNil, rdNil⟩

structure GDomino where
  Top : (List Int)
  Bottom : (List Int)
instance : DecidableEq GDomino := fun a b =>
  if h : a.Top = b.Top ∧ a.Bottom = b.Bottom then isTrue (by cases a; cases b; simp_all) else isFalse (by rintro rfl; simp at h)
instance : Rep GDomino where
  sz := 2
  agg := true
  rdc A w cs t := ∃ v0 v1, cs = [v0, v1] ∧ Rd A w v0 t.Top ∧ Rd A w v1 t.Bottom
  len := by
    intro A w cs t h
    obtain ⟨v0, v1, rfl, h0, h1⟩ := h
    rfl
  one := by
    intro A w cs t h c hc
    obtain ⟨v0, v1, rfl, h0, h1⟩ := h
    simp only [List.mem_cons, List.not_mem_nil, or_false] at hc
    rcases hc with rfl | rfl
    · exact (Rd.sl h0).oneCell
    · exact (Rd.sl h1).oneCell
  pos := by decide
  single h := by cases h
  frame := by
    intro A A' w w' cs t h hf
    obtain ⟨v0, v1, rfl, h0, h1⟩ := h
    exact ⟨v0, v1, rfl, h0.frame hf, h1.frame hf⟩
  dc w cs t B := ∃ v0 v1 B0 B1, cs = [v0, v1] ∧ B = B0 ++ B1 ∧ Dc w v0 t.Top B0 ∧ Dc w v1 t.Bottom B1
  dcf := by
    intro w w' cs t B h hf
    obtain ⟨v0, v1, B0, B1, rfl, rfl, h0, h1⟩ := h
    exact ⟨v0, v1, _, _, rfl, rfl, h0.frame (fun b hb => hf b (by simp [hb])), h1.frame (fun b hb => hf b (by simp [hb]))⟩
  dcr := by
    intro A w cs t B h hA
    obtain ⟨v0, v1, B0, B1, rfl, rfl, h0, h1⟩ := h
    exact ⟨v0, v1, rfl, h0.rd (fun b hb => hA b (by simp [hb])), h1.rd (fun b hb => hA b (by simp [hb]))⟩
  dlt := by
    intro w cs t B h b hb
    obtain ⟨v0, v1, B0, B1, rfl, rfl, h0, h1⟩ := h
    simp only [List.append_assoc, List.mem_append] at hb
    rcases hb with hb | hb
    · exact h0.lt b hb
    · exact h1.lt b hb
  flat := false
  flt h := by cases h
theorem GDomino.rdmk {A : Nat → Prop} {w : World} {v0 : Value} {x0 : (List Int)} {v1 : Value} {x1 : (List Int)} (h0 : Rd A w v0 x0) (h1 : Rd A w v1 x1) : Rd A w (.agg #[v0, v1]) (⟨x0, x1⟩ : GDomino) := by
  exact ⟨[_, _], rfl, v0, v1, rfl, h0, h1⟩
theorem GDomino.open {A : Nat → Prop} {w : World} {v : Value} {t : GDomino} (h : Rd A w v t) : ∃ v0 v1, v = .agg #[v0, v1] ∧ Rd A w v0 t.Top ∧ Rd A w v1 t.Bottom := by
  obtain ⟨cs, e, h⟩ := h
  obtain ⟨v0, v1, rfl, h0, h1⟩ := h
  exact ⟨v0, v1, e, h0, h1⟩
theorem GDomino.opens (t : GDomino) : Opens t (fun x : Value × Value => .agg #[x.1, x.2]) (fun x => [.rd x.1 t.Top, .rd x.2 t.Bottom]) := by
  intro A B w v h
  obtain ⟨v0, v1, e, h0, h1⟩ := GDomino.open h
  refine ⟨(v0, v1), e, ?_⟩
  intro f hf
  simp only [List.mem_cons, List.not_mem_nil, or_false] at hf
  rcases hf with rfl | rfl
  · exact ⟨⟨rfl, rfl⟩, h0⟩
  · exact ⟨⟨rfl, rfl⟩, h1⟩
theorem GDomino.two (y : GDomino) : Two y y.Top y.Bottom := fun w cs B => ⟨fun ⟨v0, v1, B0, B1, e, eB, h0, h1⟩ => ⟨v0, v1, B0, B1, e, eB, h0.ds, h1.ds⟩, fun ⟨v0, v1, B0, B1, e, eB, h0, h1⟩ => ⟨v0, v1, B0, B1, e, eB, h0.dc, h1.dc⟩⟩
theorem GDomino.at_Top (t : GDomino) : Part 0 t t.Top := by
  intro A w cs h
  obtain ⟨v0, v1, rfl, h0, h1⟩ := h
  refine ⟨[v0], ?_, h0.cell rfl⟩
  intro j u hj
  match j, hj with
  | 0, hj => simpa using hj
theorem GDomino.at_Bottom (t : GDomino) : Part 1 t t.Bottom := by
  intro A w cs h
  obtain ⟨v0, v1, rfl, h0, h1⟩ := h
  refine ⟨[v1], ?_, h1.cell rfl⟩
  intro j u hj
  match j, hj with
  | 0, hj => simpa using hj
theorem GDomino.nb {x0 : (List Int)} {x1 : (List Int)} (h0 : Nb x0) (h1 : Nb x1) : Nb (⟨x0, x1⟩ : GDomino) := by
  intro A w cs h
  obtain ⟨v0, v1, rfl, r0, r1⟩ := h
  obtain ⟨c0, e0, q0⟩ := r0
  obtain ⟨c1, e1, q1⟩ := r1
  exact ⟨v0, v1, [], [], rfl, rfl, ⟨c0, e0, h0 _ _ _ q0⟩, ⟨c1, e1, h1 _ _ _ q1⟩⟩
theorem GDomino.dw {w : World} {x0 : (List Int)} {x1 : (List Int)} {v0 : Value} {v1 : Value} {C0 C1 C2 : List Nat} (h0 : Dw w v0 x0 C0 C1) (h1 : Dw w v1 x1 C1 C2) : Dw w (.agg #[v0, v1]) (⟨x0, x1⟩ : GDomino) C0 C2 := by
  intro hn
  obtain ⟨B1, B2, a0, a1, nd, mem, sub⟩ := h0.two h1 hn
  exact ⟨_, ⟨[v0, v1], rfl, v0, v1, B1, B2, rfl, rfl, a0, a1⟩, nd, mem, sub⟩
theorem GDomino.fc_Top (y : GDomino) : FC 0 y y.Top (fun z => (⟨z, y.Bottom⟩ : GDomino)) := by
  intro w c Bi h
  obtain ⟨v0, v1, B0, B1, rfl, rfl, h0, h1⟩ := h
  refine ⟨v0, _, rfl, h0.ds, fun hn => ?_, fun b hb => by simp [hb], fun w' z' hz hn hf => ?_⟩
  · simp only [List.nodup_append] at hn
    first | exact hn.1 | exact hn.2.1 | exact hn.1.1 | exact hn.1.2.1
  · exact ⟨v0, v1, _, _, rfl, rfl, hz.dc, h1.frame (fun b hb => hf b (by simp [hb]) (fun hm => by simp only [List.nodup_append, List.mem_append] at hn; grind))⟩
theorem GDomino.fc_Bottom (y : GDomino) : FC 1 y y.Bottom (fun z => (⟨y.Top, z⟩ : GDomino)) := by
  intro w c Bi h
  obtain ⟨v0, v1, B0, B1, rfl, rfl, h0, h1⟩ := h
  refine ⟨v1, _, rfl, h1.ds, fun hn => ?_, fun b hb => by simp [hb], fun w' z' hz hn hf => ?_⟩
  · simp only [List.nodup_append] at hn
    first | exact hn.1 | exact hn.2.1 | exact hn.1.1 | exact hn.1.2.1
  · exact ⟨v0, v1, _, _, rfl, rfl, h0.frame (fun b hb => hf b (by simp [hb]) (fun hm => by simp only [List.nodup_append, List.mem_append] at hn; grind)), hz.dc⟩
theorem GDomino.zero {A : Nat → Prop} {w : World} : ∃ zc : List Value, (Value.agg #[.slice none 0 0, .slice none 0 0]).cells = zc.toArray ∧ Rep.rdc A w zc (⟨[], []⟩ : GDomino) := ⟨[.slice none 0 0, .slice none 0 0], rfl, _, _, rfl, rdNil, rdNil⟩

structure GTile where
  Left : Int
  Bottom : Int
  Right : Int
  Top : Int
instance : DecidableEq GTile := fun a b =>
  if h : a.Left = b.Left ∧ a.Bottom = b.Bottom ∧ a.Right = b.Right ∧ a.Top = b.Top then isTrue (by cases a; cases b; simp_all) else isFalse (by rintro rfl; simp at h)
instance : Rep GTile where
  sz := 4
  agg := true
  rdc A w cs t := cs = [.int .i64 t.Left, .int .i64 t.Bottom, .int .i64 t.Right, .int .i64 t.Top]
  len := by
    intro A w cs t h
    obtain rfl := h
    rfl
  one := by
    intro A w cs t h c hc
    obtain rfl := h
    simp only [List.mem_cons, List.not_mem_nil, or_false] at hc
    rcases hc with rfl | rfl | rfl | rfl
    · rfl
    · rfl
    · rfl
    · rfl
  pos := by decide
  single h := by cases h
  frame := by
    intro A A' w w' cs t h hf
    obtain rfl := h
    exact rfl
  dc _ cs t B := cs = [.int .i64 t.Left, .int .i64 t.Bottom, .int .i64 t.Right, .int .i64 t.Top] ∧ B = []
  dcf h _ := h
  dcr h _ := h.1
  dlt h b hb := by simp [h.2] at hb
  flat := true
  flt _ h := ⟨h, rfl⟩
theorem GTile.rdmk {A : Nat → Prop} {w : World} {v0 : Value} {x0 : Int} {v1 : Value} {x1 : Int} {v2 : Value} {x2 : Int} {v3 : Value} {x3 : Int} (h0 : Rd A w v0 x0) (h1 : Rd A w v1 x1) (h2 : Rd A w v2 x2) (h3 : Rd A w v3 x3) : Rd A w (.agg #[v0, v1, v2, v3]) (⟨x0, x1, x2, x3⟩ : GTile) := by
  have e0 := Rd.int h0
  subst e0
  have e1 := Rd.int h1
  subst e1
  have e2 := Rd.int h2
  subst e2
  have e3 := Rd.int h3
  subst e3
  exact ⟨[_, _, _, _], rfl, rfl⟩
theorem GTile.open {A : Nat → Prop} {w : World} {v : Value} {t : GTile} (h : Rd A w v t) : v = .agg #[.int .i64 t.Left, .int .i64 t.Bottom, .int .i64 t.Right, .int .i64 t.Top] := by
  obtain ⟨cs, e, h⟩ := h
  subst h
  exact e
theorem GTile.opens (t : GTile) : Opens t (fun _ : Unit => .agg #[.int .i64 t.Left, .int .i64 t.Bottom, .int .i64 t.Right, .int .i64 t.Top]) (fun _ => []) := by
  intro A B w v h
  exact ⟨(), GTile.open h, by simp⟩
theorem GTile.at_Left (t : GTile) : Part 0 t t.Left := by
  intro A w cs h
  obtain rfl := h
  refine ⟨[.int .i64 t.Left], ?_, rfl⟩
  intro j u hj
  match j, hj with
  | 0, hj => simpa using hj
theorem GTile.at_Bottom (t : GTile) : Part 1 t t.Bottom := by
  intro A w cs h
  obtain rfl := h
  refine ⟨[.int .i64 t.Bottom], ?_, rfl⟩
  intro j u hj
  match j, hj with
  | 0, hj => simpa using hj
theorem GTile.at_Right (t : GTile) : Part 2 t t.Right := by
  intro A w cs h
  obtain rfl := h
  refine ⟨[.int .i64 t.Right], ?_, rfl⟩
  intro j u hj
  match j, hj with
  | 0, hj => simpa using hj
theorem GTile.at_Top (t : GTile) : Part 3 t t.Top := by
  intro A w cs h
  obtain rfl := h
  refine ⟨[.int .i64 t.Top], ?_, rfl⟩
  intro j u hj
  match j, hj with
  | 0, hj => simpa using hj
def GTile.enc (t : GTile) : Value := .agg #[.int .i64 t.Left, .int .i64 t.Bottom, .int .i64 t.Right, .int .i64 t.Top]
theorem GTile.nb {x : GTile} : Nb x := nb_flat rfl x
theorem GTile.dw {w : World} {x0 : Int} {x1 : Int} {x2 : Int} {x3 : Int} {C : List Nat} : Dw w (.agg #[.int .i64 x0, .int .i64 x1, .int .i64 x2, .int .i64 x3]) (⟨x0, x1, x2, x3⟩ : GTile) C C := fun _ => ⟨[], ⟨[.int .i64 x0, .int .i64 x1, .int .i64 x2, .int .i64 x3], rfl, rfl, rfl⟩, by simp, by simp, List.Sublist.refl _⟩
theorem GTile.sp_Left (y : GTile) : SP 0 y (fun z => (⟨z, y.Bottom, y.Right, y.Top⟩ : GTile)) := by
  intro A w c h
  obtain rfl := h
  exact ⟨by simp, fun k => rfl⟩
theorem GTile.fs_Left (y : GTile) : FSt 0 y (fun z => (⟨z, y.Bottom, y.Right, y.Top⟩ : GTile)) := by
  intro w c Bi h
  obtain ⟨rfl, rfl⟩ := h
  exact ⟨by simp, fun k => ⟨rfl, rfl⟩⟩
theorem GTile.sp_Bottom (y : GTile) : SP 1 y (fun z => (⟨y.Left, z, y.Right, y.Top⟩ : GTile)) := by
  intro A w c h
  obtain rfl := h
  exact ⟨by simp, fun k => rfl⟩
theorem GTile.fs_Bottom (y : GTile) : FSt 1 y (fun z => (⟨y.Left, z, y.Right, y.Top⟩ : GTile)) := by
  intro w c Bi h
  obtain ⟨rfl, rfl⟩ := h
  exact ⟨by simp, fun k => ⟨rfl, rfl⟩⟩
theorem GTile.sp_Right (y : GTile) : SP 2 y (fun z => (⟨y.Left, y.Bottom, z, y.Top⟩ : GTile)) := by
  intro A w c h
  obtain rfl := h
  exact ⟨by simp, fun k => rfl⟩
theorem GTile.fs_Right (y : GTile) : FSt 2 y (fun z => (⟨y.Left, y.Bottom, z, y.Top⟩ : GTile)) := by
  intro w c Bi h
  obtain ⟨rfl, rfl⟩ := h
  exact ⟨by simp, fun k => ⟨rfl, rfl⟩⟩
theorem GTile.sp_Top (y : GTile) : SP 3 y (fun z => (⟨y.Left, y.Bottom, y.Right, z⟩ : GTile)) := by
  intro A w c h
  obtain rfl := h
  exact ⟨by simp, fun k => rfl⟩
theorem GTile.fs_Top (y : GTile) : FSt 3 y (fun z => (⟨y.Left, y.Bottom, y.Right, z⟩ : GTile)) := by
  intro w c Bi h
  obtain ⟨rfl, rfl⟩ := h
  exact ⟨by simp, fun k => ⟨rfl, rfl⟩⟩
theorem GTile.zero {A : Nat → Prop} {w : World} : ∃ zc : List Value, (Value.agg #[.int .i64 0, .int .i64 0, .int .i64 0, .int .i64 0]).cells = zc.toArray ∧ Rep.rdc A w zc (⟨0, 0, 0, 0⟩ : GTile) := ⟨[.int .i64 0, .int .i64 0, .int .i64 0, .int .i64 0], rfl, rfl⟩

structure Gtiler where
  list : (List GTile)
  bottom : (List Int)
  places : (List Int)
  left : Int
instance : Rep Gtiler where
  sz := 4
  agg := true
  rdc A w cs t := ∃ v0 v1 v2, cs = [v0, v1, v2, .int .i64 t.left] ∧ Rd A w v0 t.list ∧ Rd A w v1 t.bottom ∧ Rd A w v2 t.places
  len := by
    intro A w cs t h
    obtain ⟨v0, v1, v2, rfl, h0, h1, h2⟩ := h
    rfl
  one := by
    intro A w cs t h c hc
    obtain ⟨v0, v1, v2, rfl, h0, h1, h2⟩ := h
    simp only [List.mem_cons, List.not_mem_nil, or_false] at hc
    rcases hc with rfl | rfl | rfl | rfl
    · exact (Rd.sl h0).oneCell
    · exact (Rd.sl h1).oneCell
    · exact (Rd.sl h2).oneCell
    · rfl
  pos := by decide
  single h := by cases h
  frame := by
    intro A A' w w' cs t h hf
    obtain ⟨v0, v1, v2, rfl, h0, h1, h2⟩ := h
    exact ⟨v0, v1, v2, rfl, h0.frame hf, h1.frame hf, h2.frame hf⟩
  dc w cs t B := ∃ v0 v1 v2 B0 B1 B2, cs = [v0, v1, v2, .int .i64 t.left] ∧ B = B0 ++ B1 ++ B2 ∧ Dc w v0 t.list B0 ∧ Dc w v1 t.bottom B1 ∧ Dc w v2 t.places B2
  dcf := by
    intro w w' cs t B h hf
    obtain ⟨v0, v1, v2, B0, B1, B2, rfl, rfl, h0, h1, h2⟩ := h
    exact ⟨v0, v1, v2, _, _, _, rfl, rfl, h0.frame (fun b hb => hf b (by simp [hb])), h1.frame (fun b hb => hf b (by simp [hb])), h2.frame (fun b hb => hf b (by simp [hb]))⟩
  dcr := by
    intro A w cs t B h hA
    obtain ⟨v0, v1, v2, B0, B1, B2, rfl, rfl, h0, h1, h2⟩ := h
    exact ⟨v0, v1, v2, rfl, h0.rd (fun b hb => hA b (by simp [hb])), h1.rd (fun b hb => hA b (by simp [hb])), h2.rd (fun b hb => hA b (by simp [hb]))⟩
  dlt := by
    intro w cs t B h b hb
    obtain ⟨v0, v1, v2, B0, B1, B2, rfl, rfl, h0, h1, h2⟩ := h
    simp only [List.append_assoc, List.mem_append] at hb
    rcases hb with hb | hb | hb
    · exact h0.lt b hb
    · exact h1.lt b hb
    · exact h2.lt b hb
  flat := false
  flt h := by cases h
theorem Gtiler.rdmk {A : Nat → Prop} {w : World} {v0 : Value} {x0 : (List GTile)} {v1 : Value} {x1 : (List Int)} {v2 : Value} {x2 : (List Int)} {v3 : Value} {x3 : Int} (h0 : Rd A w v0 x0) (h1 : Rd A w v1 x1) (h2 : Rd A w v2 x2) (h3 : Rd A w v3 x3) : Rd A w (.agg #[v0, v1, v2, v3]) (⟨x0, x1, x2, x3⟩ : Gtiler) := by
  have e3 := Rd.int h3
  subst e3
  exact ⟨[_, _, _, _], rfl, v0, v1, v2, rfl, h0, h1, h2⟩
theorem Gtiler.open {A : Nat → Prop} {w : World} {v : Value} {t : Gtiler} (h : Rd A w v t) : ∃ v0 v1 v2, v = .agg #[v0, v1, v2, .int .i64 t.left] ∧ Rd A w v0 t.list ∧ Rd A w v1 t.bottom ∧ Rd A w v2 t.places := by
  obtain ⟨cs, e, h⟩ := h
  obtain ⟨v0, v1, v2, rfl, h0, h1, h2⟩ := h
  exact ⟨v0, v1, v2, e, h0, h1, h2⟩
theorem Gtiler.opens (t : Gtiler) : Opens t (fun x : Value × Value × Value => .agg #[x.1, x.2.1, x.2.2, .int .i64 t.left]) (fun x => [.rd x.1 t.list, .rd x.2.1 t.bottom, .rd x.2.2 t.places]) := by
  intro A B w v h
  obtain ⟨v0, v1, v2, e, h0, h1, h2⟩ := Gtiler.open h
  refine ⟨(v0, v1, v2), e, ?_⟩
  intro f hf
  simp only [List.mem_cons, List.not_mem_nil, or_false] at hf
  rcases hf with rfl | rfl | rfl
  · exact ⟨⟨rfl, rfl⟩, h0⟩
  · exact ⟨⟨rfl, rfl⟩, h1⟩
  · exact ⟨⟨rfl, rfl⟩, h2⟩
theorem Gtiler.at_list (t : Gtiler) : Part 0 t t.list := by
  intro A w cs h
  obtain ⟨v0, v1, v2, rfl, h0, h1, h2⟩ := h
  refine ⟨[v0], ?_, h0.cell rfl⟩
  intro j u hj
  match j, hj with
  | 0, hj => simpa using hj
theorem Gtiler.at_bottom (t : Gtiler) : Part 1 t t.bottom := by
  intro A w cs h
  obtain ⟨v0, v1, v2, rfl, h0, h1, h2⟩ := h
  refine ⟨[v1], ?_, h1.cell rfl⟩
  intro j u hj
  match j, hj with
  | 0, hj => simpa using hj
theorem Gtiler.at_places (t : Gtiler) : Part 2 t t.places := by
  intro A w cs h
  obtain ⟨v0, v1, v2, rfl, h0, h1, h2⟩ := h
  refine ⟨[v2], ?_, h2.cell rfl⟩
  intro j u hj
  match j, hj with
  | 0, hj => simpa using hj
theorem Gtiler.at_left (t : Gtiler) : Part 3 t t.left := by
  intro A w cs h
  obtain ⟨v0, v1, v2, rfl, h0, h1, h2⟩ := h
  refine ⟨[.int .i64 t.left], ?_, rfl⟩
  intro j u hj
  match j, hj with
  | 0, hj => simpa using hj
theorem Gtiler.nb {x0 : (List GTile)} {x1 : (List Int)} {x2 : (List Int)} {x3 : Int} (h0 : Nb x0) (h1 : Nb x1) (h2 : Nb x2) : Nb (⟨x0, x1, x2, x3⟩ : Gtiler) := by
  intro A w cs h
  obtain ⟨v0, v1, v2, rfl, r0, r1, r2⟩ := h
  obtain ⟨c0, e0, q0⟩ := r0
  obtain ⟨c1, e1, q1⟩ := r1
  obtain ⟨c2, e2, q2⟩ := r2
  exact ⟨v0, v1, v2, [], [], [], rfl, rfl, ⟨c0, e0, h0 _ _ _ q0⟩, ⟨c1, e1, h1 _ _ _ q1⟩, ⟨c2, e2, h2 _ _ _ q2⟩⟩
theorem Gtiler.dw {w : World} {x0 : (List GTile)} {x1 : (List Int)} {x2 : (List Int)} {x3 : Int} {v0 : Value} {v1 : Value} {v2 : Value} {C0 C1 C2 C3 : List Nat} (h0 : Dw w v0 x0 C0 C1) (h1 : Dw w v1 x1 C1 C2) (h2 : Dw w v2 x2 C2 C3) : Dw w (.agg #[v0, v1, v2, .int .i64 x3]) (⟨x0, x1, x2, x3⟩ : Gtiler) C0 C3 := by
  intro hn
  obtain ⟨B1, B2, B3, a0, a1, a2, nd, mem, sub⟩ := h0.three h1 h2 hn
  exact ⟨_, ⟨[v0, v1, v2, .int .i64 x3], rfl, v0, v1, v2, B1, B2, B3, rfl, rfl, a0, a1, a2⟩, nd, mem, sub⟩
theorem Gtiler.fc_list (y : Gtiler) : FC 0 y y.list (fun z => (⟨z, y.bottom, y.places, y.left⟩ : Gtiler)) := by
  intro w c Bi h
  obtain ⟨v0, v1, v2, B0, B1, B2, rfl, rfl, h0, h1, h2⟩ := h
  refine ⟨v0, _, rfl, h0.ds, fun hn => ?_, fun b hb => by simp [hb], fun w' z' hz hn hf => ?_⟩
  · simp only [List.nodup_append] at hn
    first | exact hn.1 | exact hn.2.1 | exact hn.1.1 | exact hn.1.2.1
  · exact ⟨v0, v1, v2, _, _, _, rfl, rfl, hz.dc, h1.frame (fun b hb => hf b (by simp [hb]) (fun hm => by simp only [List.nodup_append, List.mem_append] at hn; grind)), h2.frame (fun b hb => hf b (by simp [hb]) (fun hm => by simp only [List.nodup_append, List.mem_append] at hn; grind))⟩
theorem Gtiler.fc_bottom (y : Gtiler) : FC 1 y y.bottom (fun z => (⟨y.list, z, y.places, y.left⟩ : Gtiler)) := by
  intro w c Bi h
  obtain ⟨v0, v1, v2, B0, B1, B2, rfl, rfl, h0, h1, h2⟩ := h
  refine ⟨v1, _, rfl, h1.ds, fun hn => ?_, fun b hb => by simp [hb], fun w' z' hz hn hf => ?_⟩
  · simp only [List.nodup_append] at hn
    first | exact hn.1 | exact hn.2.1 | exact hn.1.1 | exact hn.1.2.1
  · exact ⟨v0, v1, v2, _, _, _, rfl, rfl, h0.frame (fun b hb => hf b (by simp [hb]) (fun hm => by simp only [List.nodup_append, List.mem_append] at hn; grind)), hz.dc, h2.frame (fun b hb => hf b (by simp [hb]) (fun hm => by simp only [List.nodup_append, List.mem_append] at hn; grind))⟩
theorem Gtiler.fc_places (y : Gtiler) : FC 2 y y.places (fun z => (⟨y.list, y.bottom, z, y.left⟩ : Gtiler)) := by
  intro w c Bi h
  obtain ⟨v0, v1, v2, B0, B1, B2, rfl, rfl, h0, h1, h2⟩ := h
  refine ⟨v2, _, rfl, h2.ds, fun hn => ?_, fun b hb => by simp [hb], fun w' z' hz hn hf => ?_⟩
  · simp only [List.nodup_append] at hn
    first | exact hn.1 | exact hn.2.1 | exact hn.1.1 | exact hn.1.2.1
  · exact ⟨v0, v1, v2, _, _, _, rfl, rfl, h0.frame (fun b hb => hf b (by simp [hb]) (fun hm => by simp only [List.nodup_append, List.mem_append] at hn; grind)), h1.frame (fun b hb => hf b (by simp [hb]) (fun hm => by simp only [List.nodup_append, List.mem_append] at hn; grind)), hz.dc⟩
theorem Gtiler.sp_left (y : Gtiler) : SP 3 y (fun z => (⟨y.list, y.bottom, y.places, z⟩ : Gtiler)) := by
  intro A w c h
  obtain ⟨v0, v1, v2, rfl, h0, h1, h2⟩ := h
  exact ⟨by simp, fun k => ⟨v0, v1, v2, rfl, h0, h1, h2⟩⟩
theorem Gtiler.fs_left (y : Gtiler) : FSt 3 y (fun z => (⟨y.list, y.bottom, y.places, z⟩ : Gtiler)) := by
  intro w c Bi h
  obtain ⟨v0, v1, v2, B0, B1, B2, rfl, rfl, h0, h1, h2⟩ := h
  exact ⟨by simp, fun k => ⟨v0, v1, v2, _, _, _, rfl, rfl, h0, h1, h2⟩⟩
theorem Gtiler.zero {A : Nat → Prop} {w : World} : ∃ zc : List Value, (Value.agg #[.slice none 0 0, .slice none 0 0, .slice none 0 0, .int .i64 0]).cells = zc.toArray ∧ Rep.rdc A w zc (⟨[], [], [], 0⟩ : Gtiler) := ⟨[.slice none 0 0, .slice none 0 0, .slice none 0 0, .int .i64 0], rfl, _, _, _, rfl, rdNil, rdNil, rdNil⟩

structure Grunner where
  m_Symbols : Int
  m_States : Int
  m_Rules : (List GRule)
  state : Int
  left : (List Int)
  right : (List Int)
instance : Rep Grunner where
  sz := 6
  agg := true
  rdc A w cs t := ∃ v2 v4 v5, cs = [.int .i64 t.m_Symbols, .int .i64 t.m_States, v2, .int .i64 t.state, v4, v5] ∧ Rd A w v2 t.m_Rules ∧ Rd A w v4 t.left ∧ Rd A w v5 t.right
  len := by
    intro A w cs t h
    obtain ⟨v2, v4, v5, rfl, h2, h4, h5⟩ := h
    rfl
  one := by
    intro A w cs t h c hc
    obtain ⟨v2, v4, v5, rfl, h2, h4, h5⟩ := h
    simp only [List.mem_cons, List.not_mem_nil, or_false] at hc
    rcases hc with rfl | rfl | rfl | rfl | rfl | rfl
    · rfl
    · rfl
    · exact (Rd.sl h2).oneCell
    · rfl
    · exact (Rd.sl h4).oneCell
    · exact (Rd.sl h5).oneCell
  pos := by decide
  single h := by cases h
  frame := by
    intro A A' w w' cs t h hf
    obtain ⟨v2, v4, v5, rfl, h2, h4, h5⟩ := h
    exact ⟨v2, v4, v5, rfl, h2.frame hf, h4.frame hf, h5.frame hf⟩
  dc w cs t B := ∃ v2 v4 v5 B2 B4 B5, cs = [.int .i64 t.m_Symbols, .int .i64 t.m_States, v2, .int .i64 t.state, v4, v5] ∧ B = B2 ++ B4 ++ B5 ∧ Dc w v2 t.m_Rules B2 ∧ Dc w v4 t.left B4 ∧ Dc w v5 t.right B5
  dcf := by
    intro w w' cs t B h hf
    obtain ⟨v2, v4, v5, B2, B4, B5, rfl, rfl, h2, h4, h5⟩ := h
    exact ⟨v2, v4, v5, _, _, _, rfl, rfl, h2.frame (fun b hb => hf b (by simp [hb])), h4.frame (fun b hb => hf b (by simp [hb])), h5.frame (fun b hb => hf b (by simp [hb]))⟩
  dcr := by
    intro A w cs t B h hA
    obtain ⟨v2, v4, v5, B2, B4, B5, rfl, rfl, h2, h4, h5⟩ := h
    exact ⟨v2, v4, v5, rfl, h2.rd (fun b hb => hA b (by simp [hb])), h4.rd (fun b hb => hA b (by simp [hb])), h5.rd (fun b hb => hA b (by simp [hb]))⟩
  dlt := by
    intro w cs t B h b hb
    obtain ⟨v2, v4, v5, B2, B4, B5, rfl, rfl, h2, h4, h5⟩ := h
    simp only [List.append_assoc, List.mem_append] at hb
    rcases hb with hb | hb | hb
    · exact h2.lt b hb
    · exact h4.lt b hb
    · exact h5.lt b hb
  flat := false
  flt h := by cases h
theorem Grunner.rdmk {A : Nat → Prop} {w : World} {v0 : Value} {x0 : Int} {v1 : Value} {x1 : Int} {v2 : Value} {x2 : (List GRule)} {v3 : Value} {x3 : Int} {v4 : Value} {x4 : (List Int)} {v5 : Value} {x5 : (List Int)} (h0 : Rd A w v0 x0) (h1 : Rd A w v1 x1) (h2 : Rd A w v2 x2) (h3 : Rd A w v3 x3) (h4 : Rd A w v4 x4) (h5 : Rd A w v5 x5) : Rd A w (.agg #[v0, v1, v2, v3, v4, v5]) (⟨x0, x1, x2, x3, x4, x5⟩ : Grunner) := by
  have e0 := Rd.int h0
  subst e0
  have e1 := Rd.int h1
  subst e1
  have e3 := Rd.int h3
  subst e3
  exact ⟨[_, _, _, _, _, _], rfl, v2, v4, v5, rfl, h2, h4, h5⟩
theorem Grunner.open {A : Nat → Prop} {w : World} {v : Value} {t : Grunner} (h : Rd A w v t) : ∃ v2 v4 v5, v = .agg #[.int .i64 t.m_Symbols, .int .i64 t.m_States, v2, .int .i64 t.state, v4, v5] ∧ Rd A w v2 t.m_Rules ∧ Rd A w v4 t.left ∧ Rd A w v5 t.right := by
  obtain ⟨cs, e, h⟩ := h
  obtain ⟨v2, v4, v5, rfl, h2, h4, h5⟩ := h
  exact ⟨v2, v4, v5, e, h2, h4, h5⟩
theorem Grunner.opens (t : Grunner) : Opens t (fun x : Value × Value × Value => .agg #[.int .i64 t.m_Symbols, .int .i64 t.m_States, x.1, .int .i64 t.state, x.2.1, x.2.2]) (fun x => [.rd x.1 t.m_Rules, .rd x.2.1 t.left, .rd x.2.2 t.right]) := by
  intro A B w v h
  obtain ⟨v2, v4, v5, e, h2, h4, h5⟩ := Grunner.open h
  refine ⟨(v2, v4, v5), e, ?_⟩
  intro f hf
  simp only [List.mem_cons, List.not_mem_nil, or_false] at hf
  rcases hf with rfl | rfl | rfl
  · exact ⟨⟨rfl, rfl⟩, h2⟩
  · exact ⟨⟨rfl, rfl⟩, h4⟩
  · exact ⟨⟨rfl, rfl⟩, h5⟩
theorem Grunner.at_m_Symbols (t : Grunner) : Part 0 t t.m_Symbols := by
  intro A w cs h
  obtain ⟨v2, v4, v5, rfl, h2, h4, h5⟩ := h
  refine ⟨[.int .i64 t.m_Symbols], ?_, rfl⟩
  intro j u hj
  match j, hj with
  | 0, hj => simpa using hj
theorem Grunner.at_m_States (t : Grunner) : Part 1 t t.m_States := by
  intro A w cs h
  obtain ⟨v2, v4, v5, rfl, h2, h4, h5⟩ := h
  refine ⟨[.int .i64 t.m_States], ?_, rfl⟩
  intro j u hj
  match j, hj with
  | 0, hj => simpa using hj
theorem Grunner.at_m_Rules (t : Grunner) : Part 2 t t.m_Rules := by
  intro A w cs h
  obtain ⟨v2, v4, v5, rfl, h2, h4, h5⟩ := h
  refine ⟨[v2], ?_, h2.cell rfl⟩
  intro j u hj
  match j, hj with
  | 0, hj => simpa using hj
theorem Grunner.at_state (t : Grunner) : Part 3 t t.state := by
  intro A w cs h
  obtain ⟨v2, v4, v5, rfl, h2, h4, h5⟩ := h
  refine ⟨[.int .i64 t.state], ?_, rfl⟩
  intro j u hj
  match j, hj with
  | 0, hj => simpa using hj
theorem Grunner.at_left (t : Grunner) : Part 4 t t.left := by
  intro A w cs h
  obtain ⟨v2, v4, v5, rfl, h2, h4, h5⟩ := h
  refine ⟨[v4], ?_, h4.cell rfl⟩
  intro j u hj
  match j, hj with
  | 0, hj => simpa using hj
theorem Grunner.at_right (t : Grunner) : Part 5 t t.right := by
  intro A w cs h
  obtain ⟨v2, v4, v5, rfl, h2, h4, h5⟩ := h
  refine ⟨[v5], ?_, h5.cell rfl⟩
  intro j u hj
  match j, hj with
  | 0, hj => simpa using hj
theorem Grunner.at_m (t : Grunner) : Part 0 t (⟨t.m_Symbols, t.m_States, t.m_Rules⟩ : GMachine) := by
  intro A w cs h
  obtain ⟨v2, v4, v5, rfl, h2, h4, h5⟩ := h
  refine ⟨[.int .i64 t.m_Symbols, .int .i64 t.m_States, v2], ?_, ⟨v2, rfl, h2⟩⟩
  intro j u hj
  match j, hj with
  | 0, hj => simpa using hj
  | 1, hj => simpa using hj
  | 2, hj => simpa using hj
theorem Grunner.nb {x0 : Int} {x1 : Int} {x2 : (List GRule)} {x3 : Int} {x4 : (List Int)} {x5 : (List Int)} (h2 : Nb x2) (h4 : Nb x4) (h5 : Nb x5) : Nb (⟨x0, x1, x2, x3, x4, x5⟩ : Grunner) := by
  intro A w cs h
  obtain ⟨v2, v4, v5, rfl, r2, r4, r5⟩ := h
  obtain ⟨c2, e2, q2⟩ := r2
  obtain ⟨c4, e4, q4⟩ := r4
  obtain ⟨c5, e5, q5⟩ := r5
  exact ⟨v2, v4, v5, [], [], [], rfl, rfl, ⟨c2, e2, h2 _ _ _ q2⟩, ⟨c4, e4, h4 _ _ _ q4⟩, ⟨c5, e5, h5 _ _ _ q5⟩⟩
theorem Grunner.dw {w : World} {x0 : Int} {x1 : Int} {x2 : (List GRule)} {x3 : Int} {x4 : (List Int)} {x5 : (List Int)} {v2 : Value} {v4 : Value} {v5 : Value} {C0 C1 C2 C3 : List Nat} (h2 : Dw w v2 x2 C0 C1) (h4 : Dw w v4 x4 C1 C2) (h5 : Dw w v5 x5 C2 C3) : Dw w (.agg #[.int .i64 x0, .int .i64 x1, v2, .int .i64 x3, v4, v5]) (⟨x0, x1, x2, x3, x4, x5⟩ : Grunner) C0 C3 := by
  intro hn
  obtain ⟨B1, B2, B3, a0, a1, a2, nd, mem, sub⟩ := h2.three h4 h5 hn
  exact ⟨_, ⟨[.int .i64 x0, .int .i64 x1, v2, .int .i64 x3, v4, v5], rfl, v2, v4, v5, B1, B2, B3, rfl, rfl, a0, a1, a2⟩, nd, mem, sub⟩
theorem Grunner.sp_m_Symbols (y : Grunner) : SP 0 y (fun z => (⟨z, y.m_States, y.m_Rules, y.state, y.left, y.right⟩ : Grunner)) := by
  intro A w c h
  obtain ⟨v2, v4, v5, rfl, h2, h4, h5⟩ := h
  exact ⟨by simp, fun k => ⟨v2, v4, v5, rfl, h2, h4, h5⟩⟩
theorem Grunner.fs_m_Symbols (y : Grunner) : FSt 0 y (fun z => (⟨z, y.m_States, y.m_Rules, y.state, y.left, y.right⟩ : Grunner)) := by
  intro w c Bi h
  obtain ⟨v2, v4, v5, B2, B4, B5, rfl, rfl, h2, h4, h5⟩ := h
  exact ⟨by simp, fun k => ⟨v2, v4, v5, _, _, _, rfl, rfl, h2, h4, h5⟩⟩
theorem Grunner.sp_m_States (y : Grunner) : SP 1 y (fun z => (⟨y.m_Symbols, z, y.m_Rules, y.state, y.left, y.right⟩ : Grunner)) := by
  intro A w c h
  obtain ⟨v2, v4, v5, rfl, h2, h4, h5⟩ := h
  exact ⟨by simp, fun k => ⟨v2, v4, v5, rfl, h2, h4, h5⟩⟩
theorem Grunner.fs_m_States (y : Grunner) : FSt 1 y (fun z => (⟨y.m_Symbols, z, y.m_Rules, y.state, y.left, y.right⟩ : Grunner)) := by
  intro w c Bi h
  obtain ⟨v2, v4, v5, B2, B4, B5, rfl, rfl, h2, h4, h5⟩ := h
  exact ⟨by simp, fun k => ⟨v2, v4, v5, _, _, _, rfl, rfl, h2, h4, h5⟩⟩
theorem Grunner.fc_m_Rules (y : Grunner) : FC 2 y y.m_Rules (fun z => (⟨y.m_Symbols, y.m_States, z, y.state, y.left, y.right⟩ : Grunner)) := by
  intro w c Bi h
  obtain ⟨v2, v4, v5, B2, B4, B5, rfl, rfl, h2, h4, h5⟩ := h
  refine ⟨v2, _, rfl, h2.ds, fun hn => ?_, fun b hb => by simp [hb], fun w' z' hz hn hf => ?_⟩
  · simp only [List.nodup_append] at hn
    first | exact hn.1 | exact hn.2.1 | exact hn.1.1 | exact hn.1.2.1
  · exact ⟨v2, v4, v5, _, _, _, rfl, rfl, hz.dc, h4.frame (fun b hb => hf b (by simp [hb]) (fun hm => by simp only [List.nodup_append, List.mem_append] at hn; grind)), h5.frame (fun b hb => hf b (by simp [hb]) (fun hm => by simp only [List.nodup_append, List.mem_append] at hn; grind))⟩
theorem Grunner.sp_state (y : Grunner) : SP 3 y (fun z => (⟨y.m_Symbols, y.m_States, y.m_Rules, z, y.left, y.right⟩ : Grunner)) := by
  intro A w c h
  obtain ⟨v2, v4, v5, rfl, h2, h4, h5⟩ := h
  exact ⟨by simp, fun k => ⟨v2, v4, v5, rfl, h2, h4, h5⟩⟩
theorem Grunner.fs_state (y : Grunner) : FSt 3 y (fun z => (⟨y.m_Symbols, y.m_States, y.m_Rules, z, y.left, y.right⟩ : Grunner)) := by
  intro w c Bi h
  obtain ⟨v2, v4, v5, B2, B4, B5, rfl, rfl, h2, h4, h5⟩ := h
  exact ⟨by simp, fun k => ⟨v2, v4, v5, _, _, _, rfl, rfl, h2, h4, h5⟩⟩
theorem Grunner.fc_left (y : Grunner) : FC 4 y y.left (fun z => (⟨y.m_Symbols, y.m_States, y.m_Rules, y.state, z, y.right⟩ : Grunner)) := by
  intro w c Bi h
  obtain ⟨v2, v4, v5, B2, B4, B5, rfl, rfl, h2, h4, h5⟩ := h
  refine ⟨v4, _, rfl, h4.ds, fun hn => ?_, fun b hb => by simp [hb], fun w' z' hz hn hf => ?_⟩
  · simp only [List.nodup_append] at hn
    first | exact hn.1 | exact hn.2.1 | exact hn.1.1 | exact hn.1.2.1
  · exact ⟨v2, v4, v5, _, _, _, rfl, rfl, h2.frame (fun b hb => hf b (by simp [hb]) (fun hm => by simp only [List.nodup_append, List.mem_append] at hn; grind)), hz.dc, h5.frame (fun b hb => hf b (by simp [hb]) (fun hm => by simp only [List.nodup_append, List.mem_append] at hn; grind))⟩
theorem Grunner.fc_right (y : Grunner) : FC 5 y y.right (fun z => (⟨y.m_Symbols, y.m_States, y.m_Rules, y.state, y.left, z⟩ : Grunner)) := by
  intro w c Bi h
  obtain ⟨v2, v4, v5, B2, B4, B5, rfl, rfl, h2, h4, h5⟩ := h
  refine ⟨v5, _, rfl, h5.ds, fun hn => ?_, fun b hb => by simp [hb], fun w' z' hz hn hf => ?_⟩
  · simp only [List.nodup_append] at hn
    first | exact hn.1 | exact hn.2.1 | exact hn.1.1 | exact hn.1.2.1
  · exact ⟨v2, v4, v5, _, _, _, rfl, rfl, h2.frame (fun b hb => hf b (by simp [hb]) (fun hm => by simp only [List.nodup_append, List.mem_append] at hn; grind)), h4.frame (fun b hb => hf b (by simp [hb]) (fun hm => by simp only [List.nodup_append, List.mem_append] at hn; grind)), hz.dc⟩
theorem Grunner.zero {A : Nat → Prop} {w : World} : ∃ zc : List Value, (Value.agg #[.int .i64 0, .int .i64 0, .slice none 0 0, .int .i64 0, .slice none 0 0, .slice none 0 0]).cells = zc.toArray ∧ Rep.rdc A w zc (⟨0, 0, [], 0, [], []⟩ : Grunner) := ⟨[.int .i64 0, .int .i64 0, .slice none 0 0, .int .i64 0, .slice none 0 0, .slice none 0 0], rfl, _, _, _, rfl, rdNil, rdNil, rdNil⟩

structure Gl00Src where
  code : (List (Ik .u8))
  at_ : Int
  seed : (Ik .u64)
instance : Rep Gl00Src where
  sz := 3
  agg := true
  rdc A w cs t := ∃ v0, cs = [v0, .int .i64 t.at_, .int .u64 t.seed.val] ∧ Rd A w v0 t.code
  len := by
    intro A w cs t h
    obtain ⟨v0, rfl, h0⟩ := h
    rfl
  one := by
    intro A w cs t h c hc
    obtain ⟨v0, rfl, h0⟩ := h
    simp only [List.mem_cons, List.not_mem_nil, or_false] at hc
    rcases hc with rfl | rfl | rfl
    · exact (Rd.sl h0).oneCell
    · rfl
    · rfl
  pos := by decide
  single h := by cases h
  frame := by
    intro A A' w w' cs t h hf
    obtain ⟨v0, rfl, h0⟩ := h
    exact ⟨v0, rfl, h0.frame hf⟩
  dc w cs t B := ∃ v0 B0, cs = [v0, .int .i64 t.at_, .int .u64 t.seed.val] ∧ B = B0 ∧ Dc w v0 t.code B0
  dcf := by
    intro w w' cs t B h hf
    obtain ⟨v0, B0, rfl, rfl, h0⟩ := h
    exact ⟨v0, _, rfl, rfl, h0.frame (fun b hb => hf b (by simp [hb]))⟩
  dcr := by
    intro A w cs t B h hA
    obtain ⟨v0, B0, rfl, rfl, h0⟩ := h
    exact ⟨v0, rfl, h0.rd (fun b hb => hA b (by simp [hb]))⟩
  dlt := by
    intro w cs t B h b hb
    obtain ⟨v0, B0, rfl, rfl, h0⟩ := h
    exact h0.lt b hb
  flat := false
  flt h := by cases h
theorem Gl00Src.rdmk {A : Nat → Prop} {w : World} {v0 : Value} {x0 : (List (Ik .u8))} {v1 : Value} {x1 : Int} {v2 : Value} {x2 : (Ik .u64)} (h0 : Rd A w v0 x0) (h1 : Rd A w v1 x1) (h2 : Rd A w v2 x2) : Rd A w (.agg #[v0, v1, v2]) (⟨x0, x1, x2⟩ : Gl00Src) := by
  have e1 := Rd.int h1
  subst e1
  have e2 := Rd.ik h2
  subst e2
  exact ⟨[_, _, _], rfl, v0, rfl, h0⟩
theorem Gl00Src.open {A : Nat → Prop} {w : World} {v : Value} {t : Gl00Src} (h : Rd A w v t) : ∃ v0, v = .agg #[v0, .int .i64 t.at_, .int .u64 t.seed.val] ∧ Rd A w v0 t.code := by
  obtain ⟨cs, e, h⟩ := h
  obtain ⟨v0, rfl, h0⟩ := h
  exact ⟨v0, e, h0⟩
theorem Gl00Src.opens (t : Gl00Src) : Opens t (fun x : Value => .agg #[x, .int .i64 t.at_, .int .u64 t.seed.val]) (fun x => [.rd x t.code]) := by
  intro A B w v h
  obtain ⟨v0, e, h0⟩ := Gl00Src.open h
  refine ⟨v0, e, ?_⟩
  intro f hf
  simp only [List.mem_cons, List.not_mem_nil, or_false] at hf
  rcases hf with rfl
  · exact ⟨⟨rfl, rfl⟩, h0⟩
theorem Gl00Src.opT (t : Tk Gl00Src) {y : Gl00Src} (hy : t.x = y) : Opens t (fun x : Value => .agg #[x, .int .i64 y.at_, .int .u64 y.seed.val]) (fun x => [.rd x (⟨y.code, t.B⟩ : Tk (List (Ik .u8)))]) := by
  subst hy
  intro A B w v h
  obtain ⟨cs, e, ⟨v0, B2, rfl, hB, h2⟩, hA⟩ := h
  subst hB
  obtain ⟨cs2, e2, h2⟩ := h2
  refine ⟨v0, e, ?_⟩
  intro f hf
  simp only [List.mem_cons, List.not_mem_nil, or_false] at hf
  rcases hf with rfl
  exact ⟨⟨rfl, rfl⟩, cs2, e2, h2, hA⟩
theorem Gl00Src.at_code (t : Gl00Src) : Part 0 t t.code := by
  intro A w cs h
  obtain ⟨v0, rfl, h0⟩ := h
  refine ⟨[v0], ?_, h0.cell rfl⟩
  intro j u hj
  match j, hj with
  | 0, hj => simpa using hj
theorem Gl00Src.at_at_ (t : Gl00Src) : Part 1 t t.at_ := by
  intro A w cs h
  obtain ⟨v0, rfl, h0⟩ := h
  refine ⟨[.int .i64 t.at_], ?_, rfl⟩
  intro j u hj
  match j, hj with
  | 0, hj => simpa using hj
theorem Gl00Src.at_seed (t : Gl00Src) : Part 2 t t.seed := by
  intro A w cs h
  obtain ⟨v0, rfl, h0⟩ := h
  refine ⟨[.int .u64 t.seed.val], ?_, rfl⟩
  intro j u hj
  match j, hj with
  | 0, hj => simpa using hj
theorem Gl00Src.nb {x0 : (List (Ik .u8))} {x1 : Int} {x2 : (Ik .u64)} (h0 : Nb x0) : Nb (⟨x0, x1, x2⟩ : Gl00Src) := by
  intro A w cs h
  obtain ⟨v0, rfl, r0⟩ := h
  obtain ⟨c0, e0, q0⟩ := r0
  exact ⟨v0, [], rfl, rfl, ⟨c0, e0, h0 _ _ _ q0⟩⟩
theorem Gl00Src.dw {w : World} {x0 : (List (Ik .u8))} {x1 : Int} {x2 : (Ik .u64)} {v0 : Value} {C0 C1 : List Nat} (h0 : Dw w v0 x0 C0 C1) : Dw w (.agg #[v0, .int .i64 x1, .int .u64 x2.val]) (⟨x0, x1, x2⟩ : Gl00Src) C0 C1 := by
  intro hn
  obtain ⟨B, a0, nd, mem, sub⟩ := h0 hn
  exact ⟨_, ⟨[v0, .int .i64 x1, .int .u64 x2.val], rfl, v0, B, rfl, rfl, a0⟩, nd, mem, sub⟩
theorem Gl00Src.fc_code (y : Gl00Src) : FC 0 y y.code (fun z => (⟨z, y.at_, y.seed⟩ : Gl00Src)) := by
  intro w c Bi h
  obtain ⟨v0, B0, rfl, rfl, h0⟩ := h
  refine ⟨v0, _, rfl, h0.ds, fun hn => ?_, fun b hb => hb, fun w' z' hz hn hf => ?_⟩
  · exact hn
  · exact ⟨v0, _, rfl, rfl, hz.dc⟩
theorem Gl00Src.sp_at_ (y : Gl00Src) : SP 1 y (fun z => (⟨y.code, z, y.seed⟩ : Gl00Src)) := by
  intro A w c h
  obtain ⟨v0, rfl, h0⟩ := h
  exact ⟨by simp, fun k => ⟨v0, rfl, h0⟩⟩
theorem Gl00Src.fs_at_ (y : Gl00Src) : FSt 1 y (fun z => (⟨y.code, z, y.seed⟩ : Gl00Src)) := by
  intro w c Bi h
  obtain ⟨v0, B0, rfl, rfl, h0⟩ := h
  exact ⟨by simp, fun k => ⟨v0, _, rfl, rfl, h0⟩⟩
theorem Gl00Src.zero {A : Nat → Prop} {w : World} : ∃ zc : List Value, (Value.agg #[.slice none 0 0, .int .i64 0, .int .u64 0]).cells = zc.toArray ∧ Rep.rdc A w zc (⟨[], 0, ⟨0⟩⟩ : Gl00Src) := ⟨[.slice none 0 0, .int .i64 0, .int .u64 0], rfl, _, rfl, rdNil⟩

structure Gl32Rest where
  word : (List Int)
  upper : Bool
  before : Int
  domino : Int
instance : DecidableEq Gl32Rest := fun a b =>
  if h : a.word = b.word ∧ a.upper = b.upper ∧ a.before = b.before ∧ a.domino = b.domino then isTrue (by cases a; cases b; simp_all) else isFalse (by rintro rfl; simp at h)
instance : Rep Gl32Rest where
  sz := 4
  agg := true
  rdc A w cs t := ∃ v0, cs = [v0, .bool t.upper, .int .i64 t.before, .int .i64 t.domino] ∧ Rd A w v0 t.word
  len := by
    intro A w cs t h
    obtain ⟨v0, rfl, h0⟩ := h
    rfl
  one := by
    intro A w cs t h c hc
    obtain ⟨v0, rfl, h0⟩ := h
    simp only [List.mem_cons, List.not_mem_nil, or_false] at hc
    rcases hc with rfl | rfl | rfl | rfl
    · exact (Rd.sl h0).oneCell
    · rfl
    · rfl
    · rfl
  pos := by decide
  single h := by cases h
  frame := by
    intro A A' w w' cs t h hf
    obtain ⟨v0, rfl, h0⟩ := h
    exact ⟨v0, rfl, h0.frame hf⟩
  dc w cs t B := ∃ v0 B0, cs = [v0, .bool t.upper, .int .i64 t.before, .int .i64 t.domino] ∧ B = B0 ∧ Dc w v0 t.word B0
  dcf := by
    intro w w' cs t B h hf
    obtain ⟨v0, B0, rfl, rfl, h0⟩ := h
    exact ⟨v0, _, rfl, rfl, h0.frame (fun b hb => hf b (by simp [hb]))⟩
  dcr := by
    intro A w cs t B h hA
    obtain ⟨v0, B0, rfl, rfl, h0⟩ := h
    exact ⟨v0, rfl, h0.rd (fun b hb => hA b (by simp [hb]))⟩
  dlt := by
    intro w cs t B h b hb
    obtain ⟨v0, B0, rfl, rfl, h0⟩ := h
    exact h0.lt b hb
  flat := false
  flt h := by cases h
theorem Gl32Rest.rdmk {A : Nat → Prop} {w : World} {v0 : Value} {x0 : (List Int)} {v1 : Value} {x1 : Bool} {v2 : Value} {x2 : Int} {v3 : Value} {x3 : Int} (h0 : Rd A w v0 x0) (h1 : Rd A w v1 x1) (h2 : Rd A w v2 x2) (h3 : Rd A w v3 x3) : Rd A w (.agg #[v0, v1, v2, v3]) (⟨x0, x1, x2, x3⟩ : Gl32Rest) := by
  have e1 := Rd.bool h1
  subst e1
  have e2 := Rd.int h2
  subst e2
  have e3 := Rd.int h3
  subst e3
  exact ⟨[_, _, _, _], rfl, v0, rfl, h0⟩
theorem Gl32Rest.open {A : Nat → Prop} {w : World} {v : Value} {t : Gl32Rest} (h : Rd A w v t) : ∃ v0, v = .agg #[v0, .bool t.upper, .int .i64 t.before, .int .i64 t.domino] ∧ Rd A w v0 t.word := by
  obtain ⟨cs, e, h⟩ := h
  obtain ⟨v0, rfl, h0⟩ := h
  exact ⟨v0, e, h0⟩
theorem Gl32Rest.opens (t : Gl32Rest) : Opens t (fun x : Value => .agg #[x, .bool t.upper, .int .i64 t.before, .int .i64 t.domino]) (fun x => [.rd x t.word]) := by
  intro A B w v h
  obtain ⟨v0, e, h0⟩ := Gl32Rest.open h
  refine ⟨v0, e, ?_⟩
  intro f hf
  simp only [List.mem_cons, List.not_mem_nil, or_false] at hf
  rcases hf with rfl
  · exact ⟨⟨rfl, rfl⟩, h0⟩
theorem Gl32Rest.opT (t : Tk Gl32Rest) {y : Gl32Rest} (hy : t.x = y) : Opens t (fun x : Value => .agg #[x, .bool y.upper, .int .i64 y.before, .int .i64 y.domino]) (fun x => [.rd x (⟨y.word, t.B⟩ : Tk (List Int))]) := by
  subst hy
  intro A B w v h
  obtain ⟨cs, e, ⟨v0, B2, rfl, hB, h2⟩, hA⟩ := h
  subst hB
  obtain ⟨cs2, e2, h2⟩ := h2
  refine ⟨v0, e, ?_⟩
  intro f hf
  simp only [List.mem_cons, List.not_mem_nil, or_false] at hf
  rcases hf with rfl
  exact ⟨⟨rfl, rfl⟩, cs2, e2, h2, hA⟩
theorem Gl32Rest.at_word (t : Gl32Rest) : Part 0 t t.word := by
  intro A w cs h
  obtain ⟨v0, rfl, h0⟩ := h
  refine ⟨[v0], ?_, h0.cell rfl⟩
  intro j u hj
  match j, hj with
  | 0, hj => simpa using hj
theorem Gl32Rest.at_upper (t : Gl32Rest) : Part 1 t t.upper := by
  intro A w cs h
  obtain ⟨v0, rfl, h0⟩ := h
  refine ⟨[.bool t.upper], ?_, rfl⟩
  intro j u hj
  match j, hj with
  | 0, hj => simpa using hj
theorem Gl32Rest.at_before (t : Gl32Rest) : Part 2 t t.before := by
  intro A w cs h
  obtain ⟨v0, rfl, h0⟩ := h
  refine ⟨[.int .i64 t.before], ?_, rfl⟩
  intro j u hj
  match j, hj with
  | 0, hj => simpa using hj
theorem Gl32Rest.at_domino (t : Gl32Rest) : Part 3 t t.domino := by
  intro A w cs h
  obtain ⟨v0, rfl, h0⟩ := h
  refine ⟨[.int .i64 t.domino], ?_, rfl⟩
  intro j u hj
  match j, hj with
  | 0, hj => simpa using hj
theorem Gl32Rest.nb {x0 : (List Int)} {x1 : Bool} {x2 : Int} {x3 : Int} (h0 : Nb x0) : Nb (⟨x0, x1, x2, x3⟩ : Gl32Rest) := by
  intro A w cs h
  obtain ⟨v0, rfl, r0⟩ := h
  obtain ⟨c0, e0, q0⟩ := r0
  exact ⟨v0, [], rfl, rfl, ⟨c0, e0, h0 _ _ _ q0⟩⟩
theorem Gl32Rest.dw {w : World} {x0 : (List Int)} {x1 : Bool} {x2 : Int} {x3 : Int} {v0 : Value} {C0 C1 : List Nat} (h0 : Dw w v0 x0 C0 C1) : Dw w (.agg #[v0, .bool x1, .int .i64 x2, .int .i64 x3]) (⟨x0, x1, x2, x3⟩ : Gl32Rest) C0 C1 := by
  intro hn
  obtain ⟨B, a0, nd, mem, sub⟩ := h0 hn
  exact ⟨_, ⟨[v0, .bool x1, .int .i64 x2, .int .i64 x3], rfl, v0, B, rfl, rfl, a0⟩, nd, mem, sub⟩
theorem Gl32Rest.fc_word (y : Gl32Rest) : FC 0 y y.word (fun z => (⟨z, y.upper, y.before, y.domino⟩ : Gl32Rest)) := by
  intro w c Bi h
  obtain ⟨v0, B0, rfl, rfl, h0⟩ := h
  refine ⟨v0, _, rfl, h0.ds, fun hn => ?_, fun b hb => hb, fun w' z' hz hn hf => ?_⟩
  · exact hn
  · exact ⟨v0, _, rfl, rfl, hz.dc⟩
theorem Gl32Rest.sp_before (y : Gl32Rest) : SP 2 y (fun z => (⟨y.word, y.upper, z, y.domino⟩ : Gl32Rest)) := by
  intro A w c h
  obtain ⟨v0, rfl, h0⟩ := h
  exact ⟨by simp, fun k => ⟨v0, rfl, h0⟩⟩
theorem Gl32Rest.fs_before (y : Gl32Rest) : FSt 2 y (fun z => (⟨y.word, y.upper, z, y.domino⟩ : Gl32Rest)) := by
  intro w c Bi h
  obtain ⟨v0, B0, rfl, rfl, h0⟩ := h
  exact ⟨by simp, fun k => ⟨v0, _, rfl, rfl, h0⟩⟩
theorem Gl32Rest.sp_domino (y : Gl32Rest) : SP 3 y (fun z => (⟨y.word, y.upper, y.before, z⟩ : Gl32Rest)) := by
  intro A w c h
  obtain ⟨v0, rfl, h0⟩ := h
  exact ⟨by simp, fun k => ⟨v0, rfl, h0⟩⟩
theorem Gl32Rest.fs_domino (y : Gl32Rest) : FSt 3 y (fun z => (⟨y.word, y.upper, y.before, z⟩ : Gl32Rest)) := by
  intro w c Bi h
  obtain ⟨v0, B0, rfl, rfl, h0⟩ := h
  exact ⟨by simp, fun k => ⟨v0, _, rfl, rfl, h0⟩⟩
theorem Gl32Rest.zero {A : Nat → Prop} {w : World} : ∃ zc : List Value, (Value.agg #[.slice none 0 0, .bool false, .int .i64 0, .int .i64 0]).cells = zc.toArray ∧ Rep.rdc A w zc (⟨[], false, 0, 0⟩ : Gl32Rest) := ⟨[.slice none 0 0, .bool false, .int .i64 0, .int .i64 0], rfl, _, rfl, rdNil⟩

end Go.Fn
