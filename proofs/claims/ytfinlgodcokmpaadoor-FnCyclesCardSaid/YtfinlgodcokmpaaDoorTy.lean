/-
  The structures of the program, as plain Lean data, and how they are laid in memory. No condition.
-/
import Derived.Test.YtfinlgodcokmpaaDoorPure
namespace Go.Fn
open Go Go.Tc

structure GRule where
  Write : Int
  Move : Int
  Next : Int
instance : DecidableEq GRule := fun a b =>
  if h : a.Write = b.Write ∧ a.Move = b.Move ∧ a.Next = b.Next then isTrue (by cases a; cases b; simp_all) else isFalse (by rintro rfl; simp at h)
instance : Rep GRule where
  sz := 3
  agg := true
  rdc A w cs t := cs = [.int .i64 t.Write, .int .i64 t.Move, .int .i64 t.Next]
  len := by
    intro A w cs t h
    obtain rfl := h
    rfl
  one := by
    intro A w cs t h c hc
    obtain rfl := h
    simp only [List.mem_cons, List.not_mem_nil, or_false] at hc
    rcases hc with rfl | rfl | rfl
    · rfl
    · rfl
    · rfl
  pos := by decide
  single h := by cases h
  frame := by
    intro A A' w w' cs t h hf
    obtain rfl := h
    exact rfl
  dc _ cs t B := cs = [.int .i64 t.Write, .int .i64 t.Move, .int .i64 t.Next] ∧ B = []
  dcf h _ := h
  dcr h _ := h.1
  dlt h b hb := by simp [h.2] at hb
  flat := true
  flt _ h := ⟨h, rfl⟩
theorem GRule.rdmk {A : Nat → Prop} {w : World} {v0 : Value} {x0 : Int} {v1 : Value} {x1 : Int} {v2 : Value} {x2 : Int} (h0 : Rd A w v0 x0) (h1 : Rd A w v1 x1) (h2 : Rd A w v2 x2) : Rd A w (.agg #[v0, v1, v2]) (⟨x0, x1, x2⟩ : GRule) := by
  have e0 := Rd.int h0
  subst e0
  have e1 := Rd.int h1
  subst e1
  have e2 := Rd.int h2
  subst e2
  exact ⟨[_, _, _], rfl, rfl⟩
theorem GRule.open {A : Nat → Prop} {w : World} {v : Value} {t : GRule} (h : Rd A w v t) : v = .agg #[.int .i64 t.Write, .int .i64 t.Move, .int .i64 t.Next] := by
  obtain ⟨cs, e, h⟩ := h
  subst h
  exact e
theorem GRule.opens (t : GRule) : Opens t (fun _ : Unit => .agg #[.int .i64 t.Write, .int .i64 t.Move, .int .i64 t.Next]) (fun _ => []) := by
  intro A B w v h
  exact ⟨(), GRule.open h, by simp⟩
theorem GRule.at_Write (t : GRule) : Part 0 t t.Write := by
  intro A w cs h
  obtain rfl := h
  refine ⟨[.int .i64 t.Write], ?_, rfl⟩
  intro j u hj
  match j, hj with
  | 0, hj => simpa using hj
theorem GRule.at_Move (t : GRule) : Part 1 t t.Move := by
  intro A w cs h
  obtain rfl := h
  refine ⟨[.int .i64 t.Move], ?_, rfl⟩
  intro j u hj
  match j, hj with
  | 0, hj => simpa using hj
theorem GRule.at_Next (t : GRule) : Part 2 t t.Next := by
  intro A w cs h
  obtain rfl := h
  refine ⟨[.int .i64 t.Next], ?_, rfl⟩
  intro j u hj
  match j, hj with
  | 0, hj => simpa using hj
def GRule.enc (t : GRule) : Value := .agg #[.int .i64 t.Write, .int .i64 t.Move, .int .i64 t.Next]
theorem GRule.nb {x : GRule} : Nb x := nb_flat rfl x
theorem GRule.dw {w : World} {x0 : Int} {x1 : Int} {x2 : Int} {C : List Nat} : Dw w (.agg #[.int .i64 x0, .int .i64 x1, .int .i64 x2]) (⟨x0, x1, x2⟩ : GRule) C C := fun _ => ⟨[], ⟨[.int .i64 x0, .int .i64 x1, .int .i64 x2], rfl, rfl, rfl⟩, by simp, by simp, List.Sublist.refl _⟩
theorem GRule.sp_Write (y : GRule) : SP 0 y (fun z => (⟨z, y.Move, y.Next⟩ : GRule)) := by
  intro A w c h
  obtain rfl := h
  exact ⟨by simp, fun k => rfl⟩
theorem GRule.fs_Write (y : GRule) : FSt 0 y (fun z => (⟨z, y.Move, y.Next⟩ : GRule)) := by
  intro w c Bi h
  obtain ⟨rfl, rfl⟩ := h
  exact ⟨by simp, fun k => ⟨rfl, rfl⟩⟩
theorem GRule.sp_Move (y : GRule) : SP 1 y (fun z => (⟨y.Write, z, y.Next⟩ : GRule)) := by
  intro A w c h
  obtain rfl := h
  exact ⟨by simp, fun k => rfl⟩
theorem GRule.fs_Move (y : GRule) : FSt 1 y (fun z => (⟨y.Write, z, y.Next⟩ : GRule)) := by
  intro w c Bi h
  obtain ⟨rfl, rfl⟩ := h
  exact ⟨by simp, fun k => ⟨rfl, rfl⟩⟩
theorem GRule.sp_Next (y : GRule) : SP 2 y (fun z => (⟨y.Write, y.Move, z⟩ : GRule)) := by
  intro A w c h
  obtain rfl := h
  exact ⟨by simp, fun k => rfl⟩
theorem GRule.fs_Next (y : GRule) : FSt 2 y (fun z => (⟨y.Write, y.Move, z⟩ : GRule)) := by
  intro w c Bi h
  obtain ⟨rfl, rfl⟩ := h
  exact ⟨by simp, fun k => ⟨rfl, rfl⟩⟩
theorem GRule.zero {A : Nat → Prop} {w : World} : ∃ zc : List Value, (Value.agg #[.int .i64 0, .int .i64 0, .int .i64 0]).cells = zc.toArray ∧ Rep.rdc A w zc (⟨0, 0, 0⟩ : GRule) := ⟨[.int .i64 0, .int .i64 0, .int .i64 0], rfl, rfl⟩

structure GMachine where
  Symbols : Int
  States : Int
  Rules : (List GRule)
instance : Rep GMachine where
  sz := 3
  agg := true
  rdc A w cs t := ∃ v2, cs = [.int .i64 t.Symbols, .int .i64 t.States, v2] ∧ Rd A w v2 t.Rules
  len := by
    intro A w cs t h
    obtain ⟨v2, rfl, h2⟩ := h
    rfl
  one := by
    intro A w cs t h c hc
    obtain ⟨v2, rfl, h2⟩ := h
    simp only [List.mem_cons, List.not_mem_nil, or_false] at hc
    rcases hc with rfl | rfl | rfl
    · rfl
    · rfl
    · exact (Rd.sl h2).oneCell
  pos := by decide
  single h := by cases h
  frame := by
    intro A A' w w' cs t h hf
    obtain ⟨v2, rfl, h2⟩ := h
    exact ⟨v2, rfl, h2.frame hf⟩
  dc w cs t B := ∃ v2 B2, cs = [.int .i64 t.Symbols, .int .i64 t.States, v2] ∧ B = B2 ∧ Dc w v2 t.Rules B2
  dcf := by
    intro w w' cs t B h hf
    obtain ⟨v2, B2, rfl, rfl, h2⟩ := h
    exact ⟨v2, _, rfl, rfl, h2.frame (fun b hb => hf b (by simp [hb]))⟩
  dcr := by
    intro A w cs t B h hA
    obtain ⟨v2, B2, rfl, rfl, h2⟩ := h
    exact ⟨v2, rfl, h2.rd (fun b hb => hA b (by simp [hb]))⟩
  dlt := by
    intro w cs t B h b hb
    obtain ⟨v2, B2, rfl, rfl, h2⟩ := h
    exact h2.lt b hb
  flat := false
  flt h := by cases h
theorem GMachine.rdmk {A : Nat → Prop} {w : World} {v0 : Value} {x0 : Int} {v1 : Value} {x1 : Int} {v2 : Value} {x2 : (List GRule)} (h0 : Rd A w v0 x0) (h1 : Rd A w v1 x1) (h2 : Rd A w v2 x2) : Rd A w (.agg #[v0, v1, v2]) (⟨x0, x1, x2⟩ : GMachine) := by
  have e0 := Rd.int h0
  subst e0
  have e1 := Rd.int h1
  subst e1
  exact ⟨[_, _, _], rfl, v2, rfl, h2⟩
theorem GMachine.open {A : Nat → Prop} {w : World} {v : Value} {t : GMachine} (h : Rd A w v t) : ∃ v2, v = .agg #[.int .i64 t.Symbols, .int .i64 t.States, v2] ∧ Rd A w v2 t.Rules := by
  obtain ⟨cs, e, h⟩ := h
  obtain ⟨v2, rfl, h2⟩ := h
  exact ⟨v2, e, h2⟩
theorem GMachine.opens (t : GMachine) : Opens t (fun x : Value => .agg #[.int .i64 t.Symbols, .int .i64 t.States, x]) (fun x => [.rd x t.Rules]) := by
  intro A B w v h
  obtain ⟨v2, e, h2⟩ := GMachine.open h
  refine ⟨v2, e, ?_⟩
  intro f hf
  simp only [List.mem_cons, List.not_mem_nil, or_false] at hf
  rcases hf with rfl
  · exact ⟨⟨rfl, rfl⟩, h2⟩
theorem GMachine.opT (t : Tk GMachine) {y : GMachine} (hy : t.x = y) : Opens t (fun x : Value => .agg #[.int .i64 y.Symbols, .int .i64 y.States, x]) (fun x => [.rd x (⟨y.Rules, t.B⟩ : Tk (List GRule))]) := by
  subst hy
  intro A B w v h
  obtain ⟨cs, e, ⟨v2, B2, rfl, hB, h2⟩, hA⟩ := h
  subst hB
  obtain ⟨cs2, e2, h2⟩ := h2
  refine ⟨v2, e, ?_⟩
  intro f hf
  simp only [List.mem_cons, List.not_mem_nil, or_false] at hf
  rcases hf with rfl
  exact ⟨⟨rfl, rfl⟩, cs2, e2, h2, hA⟩
theorem GMachine.at_Symbols (t : GMachine) : Part 0 t t.Symbols := by
  intro A w cs h
  obtain ⟨v2, rfl, h2⟩ := h
  refine ⟨[.int .i64 t.Symbols], ?_, rfl⟩
  intro j u hj
  match j, hj with
  | 0, hj => simpa using hj
theorem GMachine.at_States (t : GMachine) : Part 1 t t.States := by
  intro A w cs h
  obtain ⟨v2, rfl, h2⟩ := h
  refine ⟨[.int .i64 t.States], ?_, rfl⟩
  intro j u hj
  match j, hj with
  | 0, hj => simpa using hj
theorem GMachine.at_Rules (t : GMachine) : Part 2 t t.Rules := by
  intro A w cs h
  obtain ⟨v2, rfl, h2⟩ := h
  refine ⟨[v2], ?_, h2.cell rfl⟩
  intro j u hj
  match j, hj with
  | 0, hj => simpa using hj
theorem GMachine.nb {x0 : Int} {x1 : Int} {x2 : (List GRule)} (h2 : Nb x2) : Nb (⟨x0, x1, x2⟩ : GMachine) := by
  intro A w cs h
  obtain ⟨v2, rfl, r2⟩ := h
  obtain ⟨c2, e2, q2⟩ := r2
  exact ⟨v2, [], rfl, rfl, ⟨c2, e2, h2 _ _ _ q2⟩⟩
theorem GMachine.dw {w : World} {x0 : Int} {x1 : Int} {x2 : (List GRule)} {v2 : Value} {C0 C1 : List Nat} (h2 : Dw w v2 x2 C0 C1) : Dw w (.agg #[.int .i64 x0, .int .i64 x1, v2]) (⟨x0, x1, x2⟩ : GMachine) C0 C1 := by
  intro hn
  obtain ⟨B, a0, nd, mem, sub⟩ := h2 hn
  exact ⟨_, ⟨[.int .i64 x0, .int .i64 x1, v2], rfl, v2, B, rfl, rfl, a0⟩, nd, mem, sub⟩
theorem GMachine.sp_Symbols (y : GMachine) : SP 0 y (fun z => (⟨z, y.States, y.Rules⟩ : GMachine)) := by
  intro A w c h
  obtain ⟨v2, rfl, h2⟩ := h
  exact ⟨by simp, fun k => ⟨v2, rfl, h2⟩⟩
theorem GMachine.fs_Symbols (y : GMachine) : FSt 0 y (fun z => (⟨z, y.States, y.Rules⟩ : GMachine)) := by
  intro w c Bi h
  obtain ⟨v2, B2, rfl, rfl, h2⟩ := h
  exact ⟨by simp, fun k => ⟨v2, _, rfl, rfl, h2⟩⟩
theorem GMachine.sp_States (y : GMachine) : SP 1 y (fun z => (⟨y.Symbols, z, y.Rules⟩ : GMachine)) := by
  intro A w c h
  obtain ⟨v2, rfl, h2⟩ := h
  exact ⟨by simp, fun k => ⟨v2, rfl, h2⟩⟩
theorem GMachine.fs_States (y : GMachine) : FSt 1 y (fun z => (⟨y.Symbols, z, y.Rules⟩ : GMachine)) := by
  intro w c Bi h
  obtain ⟨v2, B2, rfl, rfl, h2⟩ := h
  exact ⟨by simp, fun k => ⟨v2, _, rfl, rfl, h2⟩⟩
theorem GMachine.fc_Rules (y : GMachine) : FC 2 y y.Rules (fun z => (⟨y.Symbols, y.States, z⟩ : GMachine)) := by
  intro w c Bi h
  obtain ⟨v2, B2, rfl, rfl, h2⟩ := h
  refine ⟨v2, _, rfl, h2.ds, fun hn => ?_, fun b hb => hb, fun w' z' hz hn hf => ?_⟩
  · exact hn
  · exact ⟨v2, _, rfl, rfl, hz.dc⟩
theorem GMachine.zero {A : Nat → Prop} {w : World} : ∃ zc : List Value, (Value.agg #[.int .i64 0, .int .i64 0, .slice none 0 0]).cells = zc.toArray ∧ Rep.rdc A w zc (⟨0, 0, []⟩ : GMachine) := ⟨[.int .i64 0, .int .i64 0, .slice none 0 0], rfl, _, rfl, rdNil⟩

structure GProof where
  Kind : Int
  Numbers : (List Int)
  Words : (List (List Int))
instance : Rep GProof where
  sz := 3
  agg := true
  rdc A w cs t := ∃ v1 v2, cs = [.int .i64 t.Kind, v1, v2] ∧ Rd A w v1 t.Numbers ∧ Rd A w v2 t.Words
  len := by
    intro A w cs t h
    obtain ⟨v1, v2, rfl, h1, h2⟩ := h
    rfl
  one := by
    intro A w cs t h c hc
    obtain ⟨v1, v2, rfl, h1, h2⟩ := h
    simp only [List.mem_cons, List.not_mem_nil, or_false] at hc
    rcases hc with rfl | rfl | rfl
    · rfl
    · exact (Rd.sl h1).oneCell
    · exact (Rd.sl h2).oneCell
  pos := by decide
  single h := by cases h
  frame := by
    intro A A' w w' cs t h hf
    obtain ⟨v1, v2, rfl, h1, h2⟩ := h
    exact ⟨v1, v2, rfl, h1.frame hf, h2.frame hf⟩
  dc w cs t B := ∃ v1 v2 B1 B2, cs = [.int .i64 t.Kind, v1, v2] ∧ B = B1 ++ B2 ∧ Dc w v1 t.Numbers B1 ∧ Dc w v2 t.Words B2
  dcf := by
    intro w w' cs t B h hf
    obtain ⟨v1, v2, B1, B2, rfl, rfl, h1, h2⟩ := h
    exact ⟨v1, v2, _, _, rfl, rfl, h1.frame (fun b hb => hf b (by simp [hb])), h2.frame (fun b hb => hf b (by simp [hb]))⟩
  dcr := by
    intro A w cs t B h hA
    obtain ⟨v1, v2, B1, B2, rfl, rfl, h1, h2⟩ := h
    exact ⟨v1, v2, rfl, h1.rd (fun b hb => hA b (by simp [hb])), h2.rd (fun b hb => hA b (by simp [hb]))⟩
  dlt := by
    intro w cs t B h b hb
    obtain ⟨v1, v2, B1, B2, rfl, rfl, h1, h2⟩ := h
    simp only [List.append_assoc, List.mem_append] at hb
    rcases hb with hb | hb
    · exact h1.lt b hb
    · exact h2.lt b hb
  flat := false
  flt h := by cases h
theorem GProof.rdmk {A : Nat → Prop} {w : World} {v0 : Value} {x0 : Int} {v1 : Value} {x1 : (List Int)} {v2 : Value} {x2 : (List (List Int))} (h0 : Rd A w v0 x0) (h1 : Rd A w v1 x1) (h2 : Rd A w v2 x2) : Rd A w (.agg #[v0, v1, v2]) (⟨x0, x1, x2⟩ : GProof) := by
  have e0 := Rd.int h0
  subst e0
  exact ⟨[_, _, _], rfl, v1, v2, rfl, h1, h2⟩
theorem GProof.open {A : Nat → Prop} {w : World} {v : Value} {t : GProof} (h : Rd A w v t) : ∃ v1 v2, v = .agg #[.int .i64 t.Kind, v1, v2] ∧ Rd A w v1 t.Numbers ∧ Rd A w v2 t.Words := by
  obtain ⟨cs, e, h⟩ := h
  obtain ⟨v1, v2, rfl, h1, h2⟩ := h
  exact ⟨v1, v2, e, h1, h2⟩
theorem GProof.opens (t : GProof) : Opens t (fun x : Value × Value => .agg #[.int .i64 t.Kind, x.1, x.2]) (fun x => [.rd x.1 t.Numbers, .rd x.2 t.Words]) := by
  intro A B w v h
  obtain ⟨v1, v2, e, h1, h2⟩ := GProof.open h
  refine ⟨(v1, v2), e, ?_⟩
  intro f hf
  simp only [List.mem_cons, List.not_mem_nil, or_false] at hf
  rcases hf with rfl | rfl
  · exact ⟨⟨rfl, rfl⟩, h1⟩
  · exact ⟨⟨rfl, rfl⟩, h2⟩
theorem GProof.at_Kind (t : GProof) : Part 0 t t.Kind := by
  intro A w cs h
  obtain ⟨v1, v2, rfl, h1, h2⟩ := h
  refine ⟨[.int .i64 t.Kind], ?_, rfl⟩
  intro j u hj
  match j, hj with
  | 0, hj => simpa using hj
theorem GProof.at_Numbers (t : GProof) : Part 1 t t.Numbers := by
  intro A w cs h
  obtain ⟨v1, v2, rfl, h1, h2⟩ := h
  refine ⟨[v1], ?_, h1.cell rfl⟩
  intro j u hj
  match j, hj with
  | 0, hj => simpa using hj
theorem GProof.at_Words (t : GProof) : Part 2 t t.Words := by
  intro A w cs h
  obtain ⟨v1, v2, rfl, h1, h2⟩ := h
  refine ⟨[v2], ?_, h2.cell rfl⟩
  intro j u hj
  match j, hj with
  | 0, hj => simpa using hj
theorem GProof.nb {x0 : Int} {x1 : (List Int)} {x2 : (List (List Int))} (h1 : Nb x1) (h2 : Nb x2) : Nb (⟨x0, x1, x2⟩ : GProof) := by
  intro A w cs h
  obtain ⟨v1, v2, rfl, r1, r2⟩ := h
  obtain ⟨c1, e1, q1⟩ := r1
  obtain ⟨c2, e2, q2⟩ := r2
  exact ⟨v1, v2, [], [], rfl, rfl, ⟨c1, e1, h1 _ _ _ q1⟩, ⟨c2, e2, h2 _ _ _ q2⟩⟩
theorem GProof.dw {w : World} {x0 : Int} {x1 : (List Int)} {x2 : (List (List Int))} {v1 : Value} {v2 : Value} {C0 C1 C2 : List Nat} (h1 : Dw w v1 x1 C0 C1) (h2 : Dw w v2 x2 C1 C2) : Dw w (.agg #[.int .i64 x0, v1, v2]) (⟨x0, x1, x2⟩ : GProof) C0 C2 := by
  intro hn
  obtain ⟨B1, B2, a0, a1, nd, mem, sub⟩ := h1.two h2 hn
  exact ⟨_, ⟨[.int .i64 x0, v1, v2], rfl, v1, v2, B1, B2, rfl, rfl, a0, a1⟩, nd, mem, sub⟩
theorem GProof.sp_Kind (y : GProof) : SP 0 y (fun z => (⟨z, y.Numbers, y.Words⟩ : GProof)) := by
  intro A w c h
  obtain ⟨v1, v2, rfl, h1, h2⟩ := h
  exact ⟨by simp, fun k => ⟨v1, v2, rfl, h1, h2⟩⟩
theorem GProof.fs_Kind (y : GProof) : FSt 0 y (fun z => (⟨z, y.Numbers, y.Words⟩ : GProof)) := by
  intro w c Bi h
  obtain ⟨v1, v2, B1, B2, rfl, rfl, h1, h2⟩ := h
  exact ⟨by simp, fun k => ⟨v1, v2, _, _, rfl, rfl, h1, h2⟩⟩
theorem GProof.fc_Numbers (y : GProof) : FC 1 y y.Numbers (fun z => (⟨y.Kind, z, y.Words⟩ : GProof)) := by
  intro w c Bi h
  obtain ⟨v1, v2, B1, B2, rfl, rfl, h1, h2⟩ := h
  refine ⟨v1, _, rfl, h1.ds, fun hn => ?_, fun b hb => by simp [hb], fun w' z' hz hn hf => ?_⟩
  · simp only [List.nodup_append] at hn
    first | exact hn.1 | exact hn.2.1 | exact hn.1.1 | exact hn.1.2.1
  · exact ⟨v1, v2, _, _, rfl, rfl, hz.dc, h2.frame (fun b hb => hf b (by simp [hb]) (fun hm => by simp only [List.nodup_append, List.mem_append] at hn; grind))⟩
theorem GProof.fc_Words (y : GProof) : FC 2 y y.Words (fun z => (⟨y.Kind, y.Numbers, z⟩ : GProof)) := by
  intro w c Bi h
  obtain ⟨v1, v2, B1, B2, rfl, rfl, h1, h2⟩ := h
  refine ⟨v2, _, rfl, h2.ds, fun hn => ?_, fun b hb => by simp [hb], fun w' z' hz hn hf => ?_⟩
  · simp only [List.nodup_append] at hn
    first | exact hn.1 | exact hn.2.1 | exact hn.1.1 | exact hn.1.2.1
  · exact ⟨v1, v2, _, _, rfl, rfl, h1.frame (fun b hb => hf b (by simp [hb]) (fun hm => by simp only [List.nodup_append, List.mem_append] at hn; grind)), hz.dc⟩
theorem GProof.zero {A : Nat → Prop} {w : World} : ∃ zc : List Value, (Value.agg #[.int .i64 0, .slice none 0 0, .slice none 0 0]).cells = zc.toArray ∧ Rep.rdc A w zc (⟨0, [], []⟩ : GProof) := ⟨[.int .i64 0, .slice none 0 0, .slice none 0 0], rfl, _, _, rfl, rdNil, rdNil⟩

structure GConfig where
  State : Int
  Left : (List Int)
  Right : (List Int)
instance : DecidableEq GConfig := fun a b =>
  if h : a.State = b.State ∧ a.Left = b.Left ∧ a.Right = b.Right then isTrue (by cases a; cases b; simp_all) else isFalse (by rintro rfl; simp at h)
instance : Rep GConfig where
  sz := 3
  agg := true
  rdc A w cs t := ∃ v1 v2, cs = [.int .i64 t.State, v1, v2] ∧ Rd A w v1 t.Left ∧ Rd A w v2 t.Right
  len := by
    intro A w cs t h
    obtain ⟨v1, v2, rfl, h1, h2⟩ := h
    rfl
  one := by
    intro A w cs t h c hc
    obtain ⟨v1, v2, rfl, h1, h2⟩ := h
    simp only [List.mem_cons, List.not_mem_nil, or_false] at hc
    rcases hc with rfl | rfl | rfl
    · rfl
    · exact (Rd.sl h1).oneCell
    · exact (Rd.sl h2).oneCell
  pos := by decide
  single h := by cases h
  frame := by
    intro A A' w w' cs t h hf
    obtain ⟨v1, v2, rfl, h1, h2⟩ := h
    exact ⟨v1, v2, rfl, h1.frame hf, h2.frame hf⟩
  dc w cs t B := ∃ v1 v2 B1 B2, cs = [.int .i64 t.State, v1, v2] ∧ B = B1 ++ B2 ∧ Dc w v1 t.Left B1 ∧ Dc w v2 t.Right B2
  dcf := by
    intro w w' cs t B h hf
    obtain ⟨v1, v2, B1, B2, rfl, rfl, h1, h2⟩ := h
    exact ⟨v1, v2, _, _, rfl, rfl, h1.frame (fun b hb => hf b (by simp [hb])), h2.frame (fun b hb => hf b (by simp [hb]))⟩
  dcr := by
    intro A w cs t B h hA
    obtain ⟨v1, v2, B1, B2, rfl, rfl, h1, h2⟩ := h
    exact ⟨v1, v2, rfl, h1.rd (fun b hb => hA b (by simp [hb])), h2.rd (fun b hb => hA b (by simp [hb]))⟩
  dlt := by
    intro w cs t B h b hb
    obtain ⟨v1, v2, B1, B2, rfl, rfl, h1, h2⟩ := h
    simp only [List.append_assoc, List.mem_append] at hb
    rcases hb with hb | hb
    · exact h1.lt b hb
    · exact h2.lt b hb
  flat := false
  flt h := by cases h
theorem GConfig.rdmk {A : Nat → Prop} {w : World} {v0 : Value} {x0 : Int} {v1 : Value} {x1 : (List Int)} {v2 : Value} {x2 : (List Int)} (h0 : Rd A w v0 x0) (h1 : Rd A w v1 x1) (h2 : Rd A w v2 x2) : Rd A w (.agg #[v0, v1, v2]) (⟨x0, x1, x2⟩ : GConfig) := by
  have e0 := Rd.int h0
  subst e0
  exact ⟨[_, _, _], rfl, v1, v2, rfl, h1, h2⟩
theorem GConfig.open {A : Nat → Prop} {w : World} {v : Value} {t : GConfig} (h : Rd A w v t) : ∃ v1 v2, v = .agg #[.int .i64 t.State, v1, v2] ∧ Rd A w v1 t.Left ∧ Rd A w v2 t.Right := by
  obtain ⟨cs, e, h⟩ := h
  obtain ⟨v1, v2, rfl, h1, h2⟩ := h
  exact ⟨v1, v2, e, h1, h2⟩
theorem GConfig.opens (t : GConfig) : Opens t (fun x : Value × Value => .agg #[.int .i64 t.State, x.1, x.2]) (fun x => [.rd x.1 t.Left, .rd x.2 t.Right]) := by
  intro A B w v h
  obtain ⟨v1, v2, e, h1, h2⟩ := GConfig.open h
  refine ⟨(v1, v2), e, ?_⟩
  intro f hf
  simp only [List.mem_cons, List.not_mem_nil, or_false] at hf
  rcases hf with rfl | rfl
  · exact ⟨⟨rfl, rfl⟩, h1⟩
  · exact ⟨⟨rfl, rfl⟩, h2⟩
theorem GConfig.at_State (t : GConfig) : Part 0 t t.State := by
  intro A w cs h
  obtain ⟨v1, v2, rfl, h1, h2⟩ := h
  refine ⟨[.int .i64 t.State], ?_, rfl⟩
  intro j u hj
  match j, hj with
  | 0, hj => simpa using hj
theorem GConfig.at_Left (t : GConfig) : Part 1 t t.Left := by
  intro A w cs h
  obtain ⟨v1, v2, rfl, h1, h2⟩ := h
  refine ⟨[v1], ?_, h1.cell rfl⟩
  intro j u hj
  match j, hj with
  | 0, hj => simpa using hj
theorem GConfig.at_Right (t : GConfig) : Part 2 t t.Right := by
  intro A w cs h
  obtain ⟨v1, v2, rfl, h1, h2⟩ := h
  refine ⟨[v2], ?_, h2.cell rfl⟩
  intro j u hj
  match j, hj with
  | 0, hj => simpa using hj
theorem GConfig.nb {x0 : Int} {x1 : (List Int)} {x2 : (List Int)} (h1 : Nb x1) (h2 : Nb x2) : Nb (⟨x0, x1, x2⟩ : GConfig) := by
  intro A w cs h
  obtain ⟨v1, v2, rfl, r1, r2⟩ := h
  obtain ⟨c1, e1, q1⟩ := r1
  obtain ⟨c2, e2, q2⟩ := r2
  exact ⟨v1, v2, [], [], rfl, rfl, ⟨c1, e1, h1 _ _ _ q1⟩, ⟨c2, e2, h2 _ _ _ q2⟩⟩
theorem GConfig.dw {w : World} {x0 : Int} {x1 : (List Int)} {x2 : (List Int)} {v1 : Value} {v2 : Value} {C0 C1 C2 : List Nat} (h1 : Dw w v1 x1 C0 C1) (h2 : Dw w v2 x2 C1 C2) : Dw w (.agg #[.int .i64 x0, v1, v2]) (⟨x0, x1, x2⟩ : GConfig) C0 C2 := by
  intro hn
  obtain ⟨B1, B2, a0, a1, nd, mem, sub⟩ := h1.two h2 hn
  exact ⟨_, ⟨[.int .i64 x0, v1, v2], rfl, v1, v2, B1, B2, rfl, rfl, a0, a1⟩, nd, mem, sub⟩
theorem GConfig.sp_State (y : GConfig) : SP 0 y (fun z => (⟨z, y.Left, y.Right⟩ : GConfig)) := by
  intro A w c h
  obtain ⟨v1, v2, rfl, h1, h2⟩ := h
  exact ⟨by simp, fun k => ⟨v1, v2, rfl, h1, h2⟩⟩
theorem GConfig.fs_State (y : GConfig) : FSt 0 y (fun z => (⟨z, y.Left, y.Right⟩ : GConfig)) := by
  intro w c Bi h
  obtain ⟨v1, v2, B1, B2, rfl, rfl, h1, h2⟩ := h
  exact ⟨by simp, fun k => ⟨v1, v2, _, _, rfl, rfl, h1, h2⟩⟩
theorem GConfig.fc_Left (y : GConfig) : FC 1 y y.Left (fun z => (⟨y.State, z, y.Right⟩ : GConfig)) := by
  intro w c Bi h
  obtain ⟨v1, v2, B1, B2, rfl, rfl, h1, h2⟩ := h
  refine ⟨v1, _, rfl, h1.ds, fun hn => ?_, fun b hb => by simp [hb], fun w' z' hz hn hf => ?_⟩
  · simp only [List.nodup_append] at hn
    first | exact hn.1 | exact hn.2.1 | exact hn.1.1 | exact hn.1.2.1
  · exact ⟨v1, v2, _, _, rfl, rfl, hz.dc, h2.frame (fun b hb => hf b (by simp [hb]) (fun hm => by simp only [List.nodup_append, List.mem_append] at hn; grind))⟩
theorem GConfig.fc_Right (y : GConfig) : FC 2 y y.Right (fun z => (⟨y.State, y.Left, z⟩ : GConfig)) := by
  intro w c Bi h
  obtain ⟨v1, v2, B1, B2, rfl, rfl, h1, h2⟩ := h
  refine ⟨v2, _, rfl, h2.ds, fun hn => ?_, fun b hb => by simp [hb], fun w' z' hz hn hf => ?_⟩
  · simp only [List.nodup_append] at hn
    first | exact hn.1 | exact hn.2.1 | exact hn.1.1 | exact hn.1.2.1
  · exact ⟨v1, v2, _, _, rfl, rfl, h1.frame (fun b hb => hf b (by simp [hb]) (fun hm => by simp only [List.nodup_append, List.mem_append] at hn; grind)), hz.dc⟩
theorem GConfig.zero {A : Nat → Prop} {w : World} : ∃ zc : List Value, (Value.agg #[.int .i64 0, .slice none 0 0, .slice none 0 0]).cells = zc.toArray ∧ Rep.rdc A w zc (⟨0, [], []⟩ : GConfig) := ⟨[.int .i64 0, .slice none 0 0, .slice none 0 0], rfl, _, _, rfl, rdNil, rdNil⟩

structure Grunner where
  m_Symbols : Int
  m_States : Int
  m_Rules : (List GRule)
  state : Int
  left : (List Int)
  right : (List Int)
instance : Rep Grunner where
  sz := 6
  agg := true
  rdc A w cs t := ∃ v2 v4 v5, cs = [.int .i64 t.m_Symbols, .int .i64 t.m_States, v2, .int .i64 t.state, v4, v5] ∧ Rd A w v2 t.m_Rules ∧ Rd A w v4 t.left ∧ Rd A w v5 t.right
  len := by
    intro A w cs t h
    obtain ⟨v2, v4, v5, rfl, h2, h4, h5⟩ := h
    rfl
  one := by
    intro A w cs t h c hc
    obtain ⟨v2, v4, v5, rfl, h2, h4, h5⟩ := h
    simp only [List.mem_cons, List.not_mem_nil, or_false] at hc
    rcases hc with rfl | rfl | rfl | rfl | rfl | rfl
    · rfl
    · rfl
    · exact (Rd.sl h2).oneCell
    · rfl
    · exact (Rd.sl h4).oneCell
    · exact (Rd.sl h5).oneCell
  pos := by decide
  single h := by cases h
  frame := by
    intro A A' w w' cs t h hf
    obtain ⟨v2, v4, v5, rfl, h2, h4, h5⟩ := h
    exact ⟨v2, v4, v5, rfl, h2.frame hf, h4.frame hf, h5.frame hf⟩
  dc w cs t B := ∃ v2 v4 v5 B2 B4 B5, cs = [.int .i64 t.m_Symbols, .int .i64 t.m_States, v2, .int .i64 t.state, v4, v5] ∧ B = B2 ++ B4 ++ B5 ∧ Dc w v2 t.m_Rules B2 ∧ Dc w v4 t.left B4 ∧ Dc w v5 t.right B5
  dcf := by
    intro w w' cs t B h hf
    obtain ⟨v2, v4, v5, B2, B4, B5, rfl, rfl, h2, h4, h5⟩ := h
    exact ⟨v2, v4, v5, _, _, _, rfl, rfl, h2.frame (fun b hb => hf b (by simp [hb])), h4.frame (fun b hb => hf b (by simp [hb])), h5.frame (fun b hb => hf b (by simp [hb]))⟩
  dcr := by
    intro A w cs t B h hA
    obtain ⟨v2, v4, v5, B2, B4, B5, rfl, rfl, h2, h4, h5⟩ := h
    exact ⟨v2, v4, v5, rfl, h2.rd (fun b hb => hA b (by simp [hb])), h4.rd (fun b hb => hA b (by simp [hb])), h5.rd (fun b hb => hA b (by simp [hb]))⟩
  dlt := by
    intro w cs t B h b hb
    obtain ⟨v2, v4, v5, B2, B4, B5, rfl, rfl, h2, h4, h5⟩ := h
    simp only [List.append_assoc, List.mem_append] at hb
    rcases hb with hb | hb | hb
    · exact h2.lt b hb
    · exact h4.lt b hb
    · exact h5.lt b hb
  flat := false
  flt h := by cases h
theorem Grunner.rdmk {A : Nat → Prop} {w : World} {v0 : Value} {x0 : Int} {v1 : Value} {x1 : Int} {v2 : Value} {x2 : (List GRule)} {v3 : Value} {x3 : Int} {v4 : Value} {x4 : (List Int)} {v5 : Value} {x5 : (List Int)} (h0 : Rd A w v0 x0) (h1 : Rd A w v1 x1) (h2 : Rd A w v2 x2) (h3 : Rd A w v3 x3) (h4 : Rd A w v4 x4) (h5 : Rd A w v5 x5) : Rd A w (.agg #[v0, v1, v2, v3, v4, v5]) (⟨x0, x1, x2, x3, x4, x5⟩ : Grunner) := by
  have e0 := Rd.int h0
  subst e0
  have e1 := Rd.int h1
  subst e1
  have e3 := Rd.int h3
  subst e3
  exact ⟨[_, _, _, _, _, _], rfl, v2, v4, v5, rfl, h2, h4, h5⟩
theorem Grunner.open {A : Nat → Prop} {w : World} {v : Value} {t : Grunner} (h : Rd A w v t) : ∃ v2 v4 v5, v = .agg #[.int .i64 t.m_Symbols, .int .i64 t.m_States, v2, .int .i64 t.state, v4, v5] ∧ Rd A w v2 t.m_Rules ∧ Rd A w v4 t.left ∧ Rd A w v5 t.right := by
  obtain ⟨cs, e, h⟩ := h
  obtain ⟨v2, v4, v5, rfl, h2, h4, h5⟩ := h
  exact ⟨v2, v4, v5, e, h2, h4, h5⟩
theorem Grunner.opens (t : Grunner) : Opens t (fun x : Value × Value × Value => .agg #[.int .i64 t.m_Symbols, .int .i64 t.m_States, x.1, .int .i64 t.state, x.2.1, x.2.2]) (fun x => [.rd x.1 t.m_Rules, .rd x.2.1 t.left, .rd x.2.2 t.right]) := by
  intro A B w v h
  obtain ⟨v2, v4, v5, e, h2, h4, h5⟩ := Grunner.open h
  refine ⟨(v2, v4, v5), e, ?_⟩
  intro f hf
  simp only [List.mem_cons, List.not_mem_nil, or_false] at hf
  rcases hf with rfl | rfl | rfl
  · exact ⟨⟨rfl, rfl⟩, h2⟩
  · exact ⟨⟨rfl, rfl⟩, h4⟩
  · exact ⟨⟨rfl, rfl⟩, h5⟩
theorem Grunner.at_m_Symbols (t : Grunner) : Part 0 t t.m_Symbols := by
  intro A w cs h
  obtain ⟨v2, v4, v5, rfl, h2, h4, h5⟩ := h
  refine ⟨[.int .i64 t.m_Symbols], ?_, rfl⟩
  intro j u hj
  match j, hj with
  | 0, hj => simpa using hj
theorem Grunner.at_m_States (t : Grunner) : Part 1 t t.m_States := by
  intro A w cs h
  obtain ⟨v2, v4, v5, rfl, h2, h4, h5⟩ := h
  refine ⟨[.int .i64 t.m_States], ?_, rfl⟩
  intro j u hj
  match j, hj with
  | 0, hj => simpa using hj
theorem Grunner.at_m_Rules (t : Grunner) : Part 2 t t.m_Rules := by
  intro A w cs h
  obtain ⟨v2, v4, v5, rfl, h2, h4, h5⟩ := h
  refine ⟨[v2], ?_, h2.cell rfl⟩
  intro j u hj
  match j, hj with
  | 0, hj => simpa using hj
theorem Grunner.at_state (t : Grunner) : Part 3 t t.state := by
  intro A w cs h
  obtain ⟨v2, v4, v5, rfl, h2, h4, h5⟩ := h
  refine ⟨[.int .i64 t.state], ?_, rfl⟩
  intro j u hj
  match j, hj with
  | 0, hj => simpa using hj
theorem Grunner.at_left (t : Grunner) : Part 4 t t.left := by
  intro A w cs h
  obtain ⟨v2, v4, v5, rfl, h2, h4, h5⟩ := h
  refine ⟨[v4], ?_, h4.cell rfl⟩
  intro j u hj
  match j, hj with
  | 0, hj => simpa using hj
theorem Grunner.at_right (t : Grunner) : Part 5 t t.right := by
  intro A w cs h
  obtain ⟨v2, v4, v5, rfl, h2, h4, h5⟩ := h
  refine ⟨[v5], ?_, h5.cell rfl⟩
  intro j u hj
  match j, hj with
  | 0, hj => simpa using hj
theorem Grunner.at_m (t : Grunner) : Part 0 t (⟨t.m_Symbols, t.m_States, t.m_Rules⟩ : GMachine) := by
  intro A w cs h
  obtain ⟨v2, v4, v5, rfl, h2, h4, h5⟩ := h
  refine ⟨[.int .i64 t.m_Symbols, .int .i64 t.m_States, v2], ?_, ⟨v2, rfl, h2⟩⟩
  intro j u hj
  match j, hj with
  | 0, hj => simpa using hj
  | 1, hj => simpa using hj
  | 2, hj => simpa using hj
theorem Grunner.nb {x0 : Int} {x1 : Int} {x2 : (List GRule)} {x3 : Int} {x4 : (List Int)} {x5 : (List Int)} (h2 : Nb x2) (h4 : Nb x4) (h5 : Nb x5) : Nb (⟨x0, x1, x2, x3, x4, x5⟩ : Grunner) := by
  intro A w cs h
  obtain ⟨v2, v4, v5, rfl, r2, r4, r5⟩ := h
  obtain ⟨c2, e2, q2⟩ := r2
  obtain ⟨c4, e4, q4⟩ := r4
  obtain ⟨c5, e5, q5⟩ := r5
  exact ⟨v2, v4, v5, [], [], [], rfl, rfl, ⟨c2, e2, h2 _ _ _ q2⟩, ⟨c4, e4, h4 _ _ _ q4⟩, ⟨c5, e5, h5 _ _ _ q5⟩⟩
theorem Grunner.dw {w : World} {x0 : Int} {x1 : Int} {x2 : (List GRule)} {x3 : Int} {x4 : (List Int)} {x5 : (List Int)} {v2 : Value} {v4 : Value} {v5 : Value} {C0 C1 C2 C3 : List Nat} (h2 : Dw w v2 x2 C0 C1) (h4 : Dw w v4 x4 C1 C2) (h5 : Dw w v5 x5 C2 C3) : Dw w (.agg #[.int .i64 x0, .int .i64 x1, v2, .int .i64 x3, v4, v5]) (⟨x0, x1, x2, x3, x4, x5⟩ : Grunner) C0 C3 := by
  intro hn
  obtain ⟨B1, B2, B3, a0, a1, a2, nd, mem, sub⟩ := h2.three h4 h5 hn
  exact ⟨_, ⟨[.int .i64 x0, .int .i64 x1, v2, .int .i64 x3, v4, v5], rfl, v2, v4, v5, B1, B2, B3, rfl, rfl, a0, a1, a2⟩, nd, mem, sub⟩
theorem Grunner.sp_m_Symbols (y : Grunner) : SP 0 y (fun z => (⟨z, y.m_States, y.m_Rules, y.state, y.left, y.right⟩ : Grunner)) := by
  intro A w c h
  obtain ⟨v2, v4, v5, rfl, h2, h4, h5⟩ := h
  exact ⟨by simp, fun k => ⟨v2, v4, v5, rfl, h2, h4, h5⟩⟩
theorem Grunner.fs_m_Symbols (y : Grunner) : FSt 0 y (fun z => (⟨z, y.m_States, y.m_Rules, y.state, y.left, y.right⟩ : Grunner)) := by
  intro w c Bi h
  obtain ⟨v2, v4, v5, B2, B4, B5, rfl, rfl, h2, h4, h5⟩ := h
  exact ⟨by simp, fun k => ⟨v2, v4, v5, _, _, _, rfl, rfl, h2, h4, h5⟩⟩
theorem Grunner.sp_m_States (y : Grunner) : SP 1 y (fun z => (⟨y.m_Symbols, z, y.m_Rules, y.state, y.left, y.right⟩ : Grunner)) := by
  intro A w c h
  obtain ⟨v2, v4, v5, rfl, h2, h4, h5⟩ := h
  exact ⟨by simp, fun k => ⟨v2, v4, v5, rfl, h2, h4, h5⟩⟩
theorem Grunner.fs_m_States (y : Grunner) : FSt 1 y (fun z => (⟨y.m_Symbols, z, y.m_Rules, y.state, y.left, y.right⟩ : Grunner)) := by
  intro w c Bi h
  obtain ⟨v2, v4, v5, B2, B4, B5, rfl, rfl, h2, h4, h5⟩ := h
  exact ⟨by simp, fun k => ⟨v2, v4, v5, _, _, _, rfl, rfl, h2, h4, h5⟩⟩
theorem Grunner.fc_m_Rules (y : Grunner) : FC 2 y y.m_Rules (fun z => (⟨y.m_Symbols, y.m_States, z, y.state, y.left, y.right⟩ : Grunner)) := by
  intro w c Bi h
  obtain ⟨v2, v4, v5, B2, B4, B5, rfl, rfl, h2, h4, h5⟩ := h
  refine ⟨v2, _, rfl, h2.ds, fun hn => ?_, fun b hb => by simp [hb], fun w' z' hz hn hf => ?_⟩
  · simp only [List.nodup_append] at hn
    first | exact hn.1 | exact hn.2.1 | exact hn.1.1 | exact hn.1.2.1
  · exact ⟨v2, v4, v5, _, _, _, rfl, rfl, hz.dc, h4.frame (fun b hb => hf b (by simp [hb]) (fun hm => by simp only [List.nodup_append, List.mem_append] at hn; grind)), h5.frame (fun b hb => hf b (by simp [hb]) (fun hm => by simp only [List.nodup_append, List.mem_append] at hn; grind))⟩
theorem Grunner.sp_state (y : Grunner) : SP 3 y (fun z => (⟨y.m_Symbols, y.m_States, y.m_Rules, z, y.left, y.right⟩ : Grunner)) := by
  intro A w c h
  obtain ⟨v2, v4, v5, rfl, h2, h4, h5⟩ := h
  exact ⟨by simp, fun k => ⟨v2, v4, v5, rfl, h2, h4, h5⟩⟩
theorem Grunner.fs_state (y : Grunner) : FSt 3 y (fun z => (⟨y.m_Symbols, y.m_States, y.m_Rules, z, y.left, y.right⟩ : Grunner)) := by
  intro w c Bi h
  obtain ⟨v2, v4, v5, B2, B4, B5, rfl, rfl, h2, h4, h5⟩ := h
  exact ⟨by simp, fun k => ⟨v2, v4, v5, _, _, _, rfl, rfl, h2, h4, h5⟩⟩
theorem Grunner.fc_left (y : Grunner) : FC 4 y y.left (fun z => (⟨y.m_Symbols, y.m_States, y.m_Rules, y.state, z, y.right⟩ : Grunner)) := by
  intro w c Bi h
  obtain ⟨v2, v4, v5, B2, B4, B5, rfl, rfl, h2, h4, h5⟩ := h
  refine ⟨v4, _, rfl, h4.ds, fun hn => ?_, fun b hb => by simp [hb], fun w' z' hz hn hf => ?_⟩
  · simp only [List.nodup_append] at hn
    first | exact hn.1 | exact hn.2.1 | exact hn.1.1 | exact hn.1.2.1
  · exact ⟨v2, v4, v5, _, _, _, rfl, rfl, h2.frame (fun b hb => hf b (by simp [hb]) (fun hm => by simp only [List.nodup_append, List.mem_append] at hn; grind)), hz.dc, h5.frame (fun b hb => hf b (by simp [hb]) (fun hm => by simp only [List.nodup_append, List.mem_append] at hn; grind))⟩
theorem Grunner.fc_right (y : Grunner) : FC 5 y y.right (fun z => (⟨y.m_Symbols, y.m_States, y.m_Rules, y.state, y.left, z⟩ : Grunner)) := by
  intro w c Bi h
  obtain ⟨v2, v4, v5, B2, B4, B5, rfl, rfl, h2, h4, h5⟩ := h
  refine ⟨v5, _, rfl, h5.ds, fun hn => ?_, fun b hb => by simp [hb], fun w' z' hz hn hf => ?_⟩
  · simp only [List.nodup_append] at hn
    first | exact hn.1 | exact hn.2.1 | exact hn.1.1 | exact hn.1.2.1
  · exact ⟨v2, v4, v5, _, _, _, rfl, rfl, h2.frame (fun b hb => hf b (by simp [hb]) (fun hm => by simp only [List.nodup_append, List.mem_append] at hn; grind)), h4.frame (fun b hb => hf b (by simp [hb]) (fun hm => by simp only [List.nodup_append, List.mem_append] at hn; grind)), hz.dc⟩
theorem Grunner.zero {A : Nat → Prop} {w : World} : ∃ zc : List Value, (Value.agg #[.int .i64 0, .int .i64 0, .slice none 0 0, .int .i64 0, .slice none 0 0, .slice none 0 0]).cells = zc.toArray ∧ Rep.rdc A w zc (⟨0, 0, [], 0, [], []⟩ : Grunner) := ⟨[.int .i64 0, .int .i64 0, .slice none 0 0, .int .i64 0, .slice none 0 0, .slice none 0 0], rfl, _, _, _, rfl, rdNil, rdNil, rdNil⟩

structure Gl00Src where
  code : (List (Ik .u8))
  at_ : Int
  seed : (Ik .u64)
instance : Rep Gl00Src where
  sz := 3
  agg := true
  rdc A w cs t := ∃ v0, cs = [v0, .int .i64 t.at_, .int .u64 t.seed.val] ∧ Rd A w v0 t.code
  len := by
    intro A w cs t h
    obtain ⟨v0, rfl, h0⟩ := h
    rfl
  one := by
    intro A w cs t h c hc
    obtain ⟨v0, rfl, h0⟩ := h
    simp only [List.mem_cons, List.not_mem_nil, or_false] at hc
    rcases hc with rfl | rfl | rfl
    · exact (Rd.sl h0).oneCell
    · rfl
    · rfl
  pos := by decide
  single h := by cases h
  frame := by
    intro A A' w w' cs t h hf
    obtain ⟨v0, rfl, h0⟩ := h
    exact ⟨v0, rfl, h0.frame hf⟩
  dc w cs t B := ∃ v0 B0, cs = [v0, .int .i64 t.at_, .int .u64 t.seed.val] ∧ B = B0 ∧ Dc w v0 t.code B0
  dcf := by
    intro w w' cs t B h hf
    obtain ⟨v0, B0, rfl, rfl, h0⟩ := h
    exact ⟨v0, _, rfl, rfl, h0.frame (fun b hb => hf b (by simp [hb]))⟩
  dcr := by
    intro A w cs t B h hA
    obtain ⟨v0, B0, rfl, rfl, h0⟩ := h
    exact ⟨v0, rfl, h0.rd (fun b hb => hA b (by simp [hb]))⟩
  dlt := by
    intro w cs t B h b hb
    obtain ⟨v0, B0, rfl, rfl, h0⟩ := h
    exact h0.lt b hb
  flat := false
  flt h := by cases h
theorem Gl00Src.rdmk {A : Nat → Prop} {w : World} {v0 : Value} {x0 : (List (Ik .u8))} {v1 : Value} {x1 : Int} {v2 : Value} {x2 : (Ik .u64)} (h0 : Rd A w v0 x0) (h1 : Rd A w v1 x1) (h2 : Rd A w v2 x2) : Rd A w (.agg #[v0, v1, v2]) (⟨x0, x1, x2⟩ : Gl00Src) := by
  have e1 := Rd.int h1
  subst e1
  have e2 := Rd.ik h2
  subst e2
  exact ⟨[_, _, _], rfl, v0, rfl, h0⟩
theorem Gl00Src.open {A : Nat → Prop} {w : World} {v : Value} {t : Gl00Src} (h : Rd A w v t) : ∃ v0, v = .agg #[v0, .int .i64 t.at_, .int .u64 t.seed.val] ∧ Rd A w v0 t.code := by
  obtain ⟨cs, e, h⟩ := h
  obtain ⟨v0, rfl, h0⟩ := h
  exact ⟨v0, e, h0⟩
theorem Gl00Src.opens (t : Gl00Src) : Opens t (fun x : Value => .agg #[x, .int .i64 t.at_, .int .u64 t.seed.val]) (fun x => [.rd x t.code]) := by
  intro A B w v h
  obtain ⟨v0, e, h0⟩ := Gl00Src.open h
  refine ⟨v0, e, ?_⟩
  intro f hf
  simp only [List.mem_cons, List.not_mem_nil, or_false] at hf
  rcases hf with rfl
  · exact ⟨⟨rfl, rfl⟩, h0⟩
theorem Gl00Src.opT (t : Tk Gl00Src) {y : Gl00Src} (hy : t.x = y) : Opens t (fun x : Value => .agg #[x, .int .i64 y.at_, .int .u64 y.seed.val]) (fun x => [.rd x (⟨y.code, t.B⟩ : Tk (List (Ik .u8)))]) := by
  subst hy
  intro A B w v h
  obtain ⟨cs, e, ⟨v0, B2, rfl, hB, h2⟩, hA⟩ := h
  subst hB
  obtain ⟨cs2, e2, h2⟩ := h2
  refine ⟨v0, e, ?_⟩
  intro f hf
  simp only [List.mem_cons, List.not_mem_nil, or_false] at hf
  rcases hf with rfl
  exact ⟨⟨rfl, rfl⟩, cs2, e2, h2, hA⟩
theorem Gl00Src.at_code (t : Gl00Src) : Part 0 t t.code := by
  intro A w cs h
  obtain ⟨v0, rfl, h0⟩ := h
  refine ⟨[v0], ?_, h0.cell rfl⟩
  intro j u hj
  match j, hj with
  | 0, hj => simpa using hj
theorem Gl00Src.at_at_ (t : Gl00Src) : Part 1 t t.at_ := by
  intro A w cs h
  obtain ⟨v0, rfl, h0⟩ := h
  refine ⟨[.int .i64 t.at_], ?_, rfl⟩
  intro j u hj
  match j, hj with
  | 0, hj => simpa using hj
theorem Gl00Src.at_seed (t : Gl00Src) : Part 2 t t.seed := by
  intro A w cs h
  obtain ⟨v0, rfl, h0⟩ := h
  refine ⟨[.int .u64 t.seed.val], ?_, rfl⟩
  intro j u hj
  match j, hj with
  | 0, hj => simpa using hj
theorem Gl00Src.nb {x0 : (List (Ik .u8))} {x1 : Int} {x2 : (Ik .u64)} (h0 : Nb x0) : Nb (⟨x0, x1, x2⟩ : Gl00Src) := by
  intro A w cs h
  obtain ⟨v0, rfl, r0⟩ := h
  obtain ⟨c0, e0, q0⟩ := r0
  exact ⟨v0, [], rfl, rfl, ⟨c0, e0, h0 _ _ _ q0⟩⟩
theorem Gl00Src.dw {w : World} {x0 : (List (Ik .u8))} {x1 : Int} {x2 : (Ik .u64)} {v0 : Value} {C0 C1 : List Nat} (h0 : Dw w v0 x0 C0 C1) : Dw w (.agg #[v0, .int .i64 x1, .int .u64 x2.val]) (⟨x0, x1, x2⟩ : Gl00Src) C0 C1 := by
  intro hn
  obtain ⟨B, a0, nd, mem, sub⟩ := h0 hn
  exact ⟨_, ⟨[v0, .int .i64 x1, .int .u64 x2.val], rfl, v0, B, rfl, rfl, a0⟩, nd, mem, sub⟩
theorem Gl00Src.fc_code (y : Gl00Src) : FC 0 y y.code (fun z => (⟨z, y.at_, y.seed⟩ : Gl00Src)) := by
  intro w c Bi h
  obtain ⟨v0, B0, rfl, rfl, h0⟩ := h
  refine ⟨v0, _, rfl, h0.ds, fun hn => ?_, fun b hb => hb, fun w' z' hz hn hf => ?_⟩
  · exact hn
  · exact ⟨v0, _, rfl, rfl, hz.dc⟩
theorem Gl00Src.sp_at_ (y : Gl00Src) : SP 1 y (fun z => (⟨y.code, z, y.seed⟩ : Gl00Src)) := by
  intro A w c h
  obtain ⟨v0, rfl, h0⟩ := h
  exact ⟨by simp, fun k => ⟨v0, rfl, h0⟩⟩
theorem Gl00Src.fs_at_ (y : Gl00Src) : FSt 1 y (fun z => (⟨y.code, z, y.seed⟩ : Gl00Src)) := by
  intro w c Bi h
  obtain ⟨v0, B0, rfl, rfl, h0⟩ := h
  exact ⟨by simp, fun k => ⟨v0, _, rfl, rfl, h0⟩⟩
theorem Gl00Src.zero {A : Nat → Prop} {w : World} : ∃ zc : List Value, (Value.agg #[.slice none 0 0, .int .i64 0, .int .u64 0]).cells = zc.toArray ∧ Rep.rdc A w zc (⟨[], 0, ⟨0⟩⟩ : Gl00Src) := ⟨[.slice none 0 0, .int .i64 0, .int .u64 0], rfl, _, rfl, rdNil⟩

end Go.Fn
