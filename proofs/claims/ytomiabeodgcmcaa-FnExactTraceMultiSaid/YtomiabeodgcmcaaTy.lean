/-
  The structures of the program, as plain Lean data, and how they are laid in memory. No condition.
-/
import Derived.Test.YtomiabeodgcmcaaPure
namespace Go.Fn
open Go Go.Tc

structure GTape where
  Left : (List Int)
  Right : (List Int)
instance : DecidableEq GTape := fun a b =>
  if h : a.Left = b.Left ∧ a.Right = b.Right then isTrue (by cases a; cases b; simp_all) else isFalse (by rintro rfl; simp at h)
instance : Rep GTape where
  sz := 2
  agg := true
  rdc A w cs t := ∃ v0 v1, cs = [v0, v1] ∧ Rd A w v0 t.Left ∧ Rd A w v1 t.Right
  len := by
    intro A w cs t h
    obtain ⟨v0, v1, rfl, h0, h1⟩ := h
    rfl
  one := by
    intro A w cs t h c hc
    obtain ⟨v0, v1, rfl, h0, h1⟩ := h
    simp only [List.mem_cons, List.not_mem_nil, or_false] at hc
    rcases hc with rfl | rfl
    · exact (Rd.sl h0).oneCell
    · exact (Rd.sl h1).oneCell
  pos := by decide
  single h := by cases h
  frame := by
    intro A A' w w' cs t h hf
    obtain ⟨v0, v1, rfl, h0, h1⟩ := h
    exact ⟨v0, v1, rfl, h0.frame hf, h1.frame hf⟩
  dc w cs t B := ∃ v0 v1 B0 B1, cs = [v0, v1] ∧ B = B0 ++ B1 ∧ Dc w v0 t.Left B0 ∧ Dc w v1 t.Right B1
  dcf := by
    intro w w' cs t B h hf
    obtain ⟨v0, v1, B0, B1, rfl, rfl, h0, h1⟩ := h
    exact ⟨v0, v1, _, _, rfl, rfl, h0.frame (fun b hb => hf b (by simp [hb])), h1.frame (fun b hb => hf b (by simp [hb]))⟩
  dcr := by
    intro A w cs t B h hA
    obtain ⟨v0, v1, B0, B1, rfl, rfl, h0, h1⟩ := h
    exact ⟨v0, v1, rfl, h0.rd (fun b hb => hA b (by simp [hb])), h1.rd (fun b hb => hA b (by simp [hb]))⟩
  dlt := by
    intro w cs t B h b hb
    obtain ⟨v0, v1, B0, B1, rfl, rfl, h0, h1⟩ := h
    simp only [List.append_assoc, List.mem_append] at hb
    rcases hb with hb | hb
    · exact h0.lt b hb
    · exact h1.lt b hb
  flat := false
  flt h := by cases h
theorem GTape.rdmk {A : Nat → Prop} {w : World} {v0 : Value} {x0 : (List Int)} {v1 : Value} {x1 : (List Int)} (h0 : Rd A w v0 x0) (h1 : Rd A w v1 x1) : Rd A w (.agg #[v0, v1]) (⟨x0, x1⟩ : GTape) := by
  exact ⟨[_, _], rfl, v0, v1, rfl, h0, h1⟩
theorem GTape.open {A : Nat → Prop} {w : World} {v : Value} {t : GTape} (h : Rd A w v t) : ∃ v0 v1, v = .agg #[v0, v1] ∧ Rd A w v0 t.Left ∧ Rd A w v1 t.Right := by
  obtain ⟨cs, e, h⟩ := h
  obtain ⟨v0, v1, rfl, h0, h1⟩ := h
  exact ⟨v0, v1, e, h0, h1⟩
theorem GTape.opens (t : GTape) : Opens t (fun x : Value × Value => .agg #[x.1, x.2]) (fun x => [.rd x.1 t.Left, .rd x.2 t.Right]) := by
  intro A B w v h
  obtain ⟨v0, v1, e, h0, h1⟩ := GTape.open h
  refine ⟨(v0, v1), e, ?_⟩
  intro f hf
  simp only [List.mem_cons, List.not_mem_nil, or_false] at hf
  rcases hf with rfl | rfl
  · exact ⟨⟨rfl, rfl⟩, h0⟩
  · exact ⟨⟨rfl, rfl⟩, h1⟩
theorem GTape.two (y : GTape) : Two y y.Left y.Right := fun w cs B => ⟨fun ⟨v0, v1, B0, B1, e, eB, h0, h1⟩ => ⟨v0, v1, B0, B1, e, eB, h0.ds, h1.ds⟩, fun ⟨v0, v1, B0, B1, e, eB, h0, h1⟩ => ⟨v0, v1, B0, B1, e, eB, h0.dc, h1.dc⟩⟩
theorem GTape.at_Left (t : GTape) : Part 0 t t.Left := by
  intro A w cs h
  obtain ⟨v0, v1, rfl, h0, h1⟩ := h
  refine ⟨[v0], ?_, h0.cell rfl⟩
  intro j u hj
  match j, hj with
  | 0, hj => simpa using hj
theorem GTape.at_Right (t : GTape) : Part 1 t t.Right := by
  intro A w cs h
  obtain ⟨v0, v1, rfl, h0, h1⟩ := h
  refine ⟨[v1], ?_, h1.cell rfl⟩
  intro j u hj
  match j, hj with
  | 0, hj => simpa using hj
theorem GTape.nb {x0 : (List Int)} {x1 : (List Int)} (h0 : Nb x0) (h1 : Nb x1) : Nb (⟨x0, x1⟩ : GTape) := by
  intro A w cs h
  obtain ⟨v0, v1, rfl, r0, r1⟩ := h
  obtain ⟨c0, e0, q0⟩ := r0
  obtain ⟨c1, e1, q1⟩ := r1
  exact ⟨v0, v1, [], [], rfl, rfl, ⟨c0, e0, h0 _ _ _ q0⟩, ⟨c1, e1, h1 _ _ _ q1⟩⟩
theorem GTape.dw {w : World} {x0 : (List Int)} {x1 : (List Int)} {v0 : Value} {v1 : Value} {C0 C1 C2 : List Nat} (h0 : Dw w v0 x0 C0 C1) (h1 : Dw w v1 x1 C1 C2) : Dw w (.agg #[v0, v1]) (⟨x0, x1⟩ : GTape) C0 C2 := by
  intro hn
  obtain ⟨B1, B2, a0, a1, nd, mem, sub⟩ := h0.two h1 hn
  exact ⟨_, ⟨[v0, v1], rfl, v0, v1, B1, B2, rfl, rfl, a0, a1⟩, nd, mem, sub⟩
theorem GTape.fc_Left (y : GTape) : FC 0 y y.Left (fun z => (⟨z, y.Right⟩ : GTape)) := by
  intro w c Bi h
  obtain ⟨v0, v1, B0, B1, rfl, rfl, h0, h1⟩ := h
  refine ⟨v0, _, rfl, h0.ds, fun hn => ?_, fun b hb => by simp [hb], fun w' z' hz hn hf => ?_⟩
  · simp only [List.nodup_append] at hn
    first | exact hn.1 | exact hn.2.1 | exact hn.1.1 | exact hn.1.2.1
  · exact ⟨v0, v1, _, _, rfl, rfl, hz.dc, h1.frame (fun b hb => hf b (by simp [hb]) (fun hm => by simp only [List.nodup_append, List.mem_append] at hn; grind))⟩
theorem GTape.fc_Right (y : GTape) : FC 1 y y.Right (fun z => (⟨y.Left, z⟩ : GTape)) := by
  intro w c Bi h
  obtain ⟨v0, v1, B0, B1, rfl, rfl, h0, h1⟩ := h
  refine ⟨v1, _, rfl, h1.ds, fun hn => ?_, fun b hb => by simp [hb], fun w' z' hz hn hf => ?_⟩
  · simp only [List.nodup_append] at hn
    first | exact hn.1 | exact hn.2.1 | exact hn.1.1 | exact hn.1.2.1
  · exact ⟨v0, v1, _, _, rfl, rfl, h0.frame (fun b hb => hf b (by simp [hb]) (fun hm => by simp only [List.nodup_append, List.mem_append] at hn; grind)), hz.dc⟩
theorem GTape.zero {A : Nat → Prop} {w : World} : ∃ zc : List Value, (Value.agg #[.slice none 0 0, .slice none 0 0]).cells = zc.toArray ∧ Rep.rdc A w zc (⟨[], []⟩ : GTape) := ⟨[.slice none 0 0, .slice none 0 0], rfl, _, _, rfl, rdNil, rdNil⟩

structure GMultiConfig where
  State : Int
  Tapes : (List GTape)
instance : Rep GMultiConfig where
  sz := 2
  agg := true
  rdc A w cs t := ∃ v1, cs = [.int .i64 t.State, v1] ∧ Rd A w v1 t.Tapes
  len := by
    intro A w cs t h
    obtain ⟨v1, rfl, h1⟩ := h
    rfl
  one := by
    intro A w cs t h c hc
    obtain ⟨v1, rfl, h1⟩ := h
    simp only [List.mem_cons, List.not_mem_nil, or_false] at hc
    rcases hc with rfl | rfl
    · rfl
    · exact (Rd.sl h1).oneCell
  pos := by decide
  single h := by cases h
  frame := by
    intro A A' w w' cs t h hf
    obtain ⟨v1, rfl, h1⟩ := h
    exact ⟨v1, rfl, h1.frame hf⟩
  dc w cs t B := ∃ v1 B1, cs = [.int .i64 t.State, v1] ∧ B = B1 ∧ Dc w v1 t.Tapes B1
  dcf := by
    intro w w' cs t B h hf
    obtain ⟨v1, B1, rfl, rfl, h1⟩ := h
    exact ⟨v1, _, rfl, rfl, h1.frame (fun b hb => hf b (by simp [hb]))⟩
  dcr := by
    intro A w cs t B h hA
    obtain ⟨v1, B1, rfl, rfl, h1⟩ := h
    exact ⟨v1, rfl, h1.rd (fun b hb => hA b (by simp [hb]))⟩
  dlt := by
    intro w cs t B h b hb
    obtain ⟨v1, B1, rfl, rfl, h1⟩ := h
    exact h1.lt b hb
  flat := false
  flt h := by cases h
theorem GMultiConfig.rdmk {A : Nat → Prop} {w : World} {v0 : Value} {x0 : Int} {v1 : Value} {x1 : (List GTape)} (h0 : Rd A w v0 x0) (h1 : Rd A w v1 x1) : Rd A w (.agg #[v0, v1]) (⟨x0, x1⟩ : GMultiConfig) := by
  have e0 := Rd.int h0
  subst e0
  exact ⟨[_, _], rfl, v1, rfl, h1⟩
theorem GMultiConfig.open {A : Nat → Prop} {w : World} {v : Value} {t : GMultiConfig} (h : Rd A w v t) : ∃ v1, v = .agg #[.int .i64 t.State, v1] ∧ Rd A w v1 t.Tapes := by
  obtain ⟨cs, e, h⟩ := h
  obtain ⟨v1, rfl, h1⟩ := h
  exact ⟨v1, e, h1⟩
theorem GMultiConfig.opens (t : GMultiConfig) : Opens t (fun x : Value => .agg #[.int .i64 t.State, x]) (fun x => [.rd x t.Tapes]) := by
  intro A B w v h
  obtain ⟨v1, e, h1⟩ := GMultiConfig.open h
  refine ⟨v1, e, ?_⟩
  intro f hf
  simp only [List.mem_cons, List.not_mem_nil, or_false] at hf
  rcases hf with rfl
  · exact ⟨⟨rfl, rfl⟩, h1⟩
theorem GMultiConfig.opT (t : Tk GMultiConfig) {y : GMultiConfig} (hy : t.x = y) : Opens t (fun x : Value => .agg #[.int .i64 y.State, x]) (fun x => [.rd x (⟨y.Tapes, t.B⟩ : Tk (List GTape))]) := by
  subst hy
  intro A B w v h
  obtain ⟨cs, e, ⟨v1, B2, rfl, hB, h2⟩, hA⟩ := h
  subst hB
  obtain ⟨cs2, e2, h2⟩ := h2
  refine ⟨v1, e, ?_⟩
  intro f hf
  simp only [List.mem_cons, List.not_mem_nil, or_false] at hf
  rcases hf with rfl
  exact ⟨⟨rfl, rfl⟩, cs2, e2, h2, hA⟩
theorem GMultiConfig.at_State (t : GMultiConfig) : Part 0 t t.State := by
  intro A w cs h
  obtain ⟨v1, rfl, h1⟩ := h
  refine ⟨[.int .i64 t.State], ?_, rfl⟩
  intro j u hj
  match j, hj with
  | 0, hj => simpa using hj
theorem GMultiConfig.at_Tapes (t : GMultiConfig) : Part 1 t t.Tapes := by
  intro A w cs h
  obtain ⟨v1, rfl, h1⟩ := h
  refine ⟨[v1], ?_, h1.cell rfl⟩
  intro j u hj
  match j, hj with
  | 0, hj => simpa using hj
theorem GMultiConfig.nb {x0 : Int} {x1 : (List GTape)} (h1 : Nb x1) : Nb (⟨x0, x1⟩ : GMultiConfig) := by
  intro A w cs h
  obtain ⟨v1, rfl, r1⟩ := h
  obtain ⟨c1, e1, q1⟩ := r1
  exact ⟨v1, [], rfl, rfl, ⟨c1, e1, h1 _ _ _ q1⟩⟩
theorem GMultiConfig.dw {w : World} {x0 : Int} {x1 : (List GTape)} {v1 : Value} {C0 C1 : List Nat} (h1 : Dw w v1 x1 C0 C1) : Dw w (.agg #[.int .i64 x0, v1]) (⟨x0, x1⟩ : GMultiConfig) C0 C1 := by
  intro hn
  obtain ⟨B, a0, nd, mem, sub⟩ := h1 hn
  exact ⟨_, ⟨[.int .i64 x0, v1], rfl, v1, B, rfl, rfl, a0⟩, nd, mem, sub⟩
theorem GMultiConfig.fs_State (y : GMultiConfig) : FSt 0 y (fun z => (⟨z, y.Tapes⟩ : GMultiConfig)) := by
  intro w c Bi h
  obtain ⟨v1, B1, rfl, rfl, h1⟩ := h
  exact ⟨by simp, fun k => ⟨v1, _, rfl, rfl, h1⟩⟩
theorem GMultiConfig.fc_Tapes (y : GMultiConfig) : FC 1 y y.Tapes (fun z => (⟨y.State, z⟩ : GMultiConfig)) := by
  intro w c Bi h
  obtain ⟨v1, B1, rfl, rfl, h1⟩ := h
  refine ⟨v1, _, rfl, h1.ds, fun hn => ?_, fun b hb => hb, fun w' z' hz hn hf => ?_⟩
  · exact hn
  · exact ⟨v1, _, rfl, rfl, hz.dc⟩
theorem GMultiConfig.zero {A : Nat → Prop} {w : World} : ∃ zc : List Value, (Value.agg #[.int .i64 0, .slice none 0 0]).cells = zc.toArray ∧ Rep.rdc A w zc (⟨0, []⟩ : GMultiConfig) := ⟨[.int .i64 0, .slice none 0 0], rfl, _, rfl, rdNil⟩

structure GMultiRule where
  State : Int
  Read : (List Int)
  Write : (List Int)
  Move : (List Int)
  Next : Int
instance : DecidableEq GMultiRule := fun a b =>
  if h : a.State = b.State ∧ a.Read = b.Read ∧ a.Write = b.Write ∧ a.Move = b.Move ∧ a.Next = b.Next then isTrue (by cases a; cases b; simp_all) else isFalse (by rintro rfl; simp at h)
instance : Rep GMultiRule where
  sz := 5
  agg := true
  rdc A w cs t := ∃ v1 v2 v3, cs = [.int .i64 t.State, v1, v2, v3, .int .i64 t.Next] ∧ Rd A w v1 t.Read ∧ Rd A w v2 t.Write ∧ Rd A w v3 t.Move
  len := by
    intro A w cs t h
    obtain ⟨v1, v2, v3, rfl, h1, h2, h3⟩ := h
    rfl
  one := by
    intro A w cs t h c hc
    obtain ⟨v1, v2, v3, rfl, h1, h2, h3⟩ := h
    simp only [List.mem_cons, List.not_mem_nil, or_false] at hc
    rcases hc with rfl | rfl | rfl | rfl | rfl
    · rfl
    · exact (Rd.sl h1).oneCell
    · exact (Rd.sl h2).oneCell
    · exact (Rd.sl h3).oneCell
    · rfl
  pos := by decide
  single h := by cases h
  frame := by
    intro A A' w w' cs t h hf
    obtain ⟨v1, v2, v3, rfl, h1, h2, h3⟩ := h
    exact ⟨v1, v2, v3, rfl, h1.frame hf, h2.frame hf, h3.frame hf⟩
  dc w cs t B := ∃ v1 v2 v3 B1 B2 B3, cs = [.int .i64 t.State, v1, v2, v3, .int .i64 t.Next] ∧ B = B1 ++ B2 ++ B3 ∧ Dc w v1 t.Read B1 ∧ Dc w v2 t.Write B2 ∧ Dc w v3 t.Move B3
  dcf := by
    intro w w' cs t B h hf
    obtain ⟨v1, v2, v3, B1, B2, B3, rfl, rfl, h1, h2, h3⟩ := h
    exact ⟨v1, v2, v3, _, _, _, rfl, rfl, h1.frame (fun b hb => hf b (by simp [hb])), h2.frame (fun b hb => hf b (by simp [hb])), h3.frame (fun b hb => hf b (by simp [hb]))⟩
  dcr := by
    intro A w cs t B h hA
    obtain ⟨v1, v2, v3, B1, B2, B3, rfl, rfl, h1, h2, h3⟩ := h
    exact ⟨v1, v2, v3, rfl, h1.rd (fun b hb => hA b (by simp [hb])), h2.rd (fun b hb => hA b (by simp [hb])), h3.rd (fun b hb => hA b (by simp [hb]))⟩
  dlt := by
    intro w cs t B h b hb
    obtain ⟨v1, v2, v3, B1, B2, B3, rfl, rfl, h1, h2, h3⟩ := h
    simp only [List.append_assoc, List.mem_append] at hb
    rcases hb with hb | hb | hb
    · exact h1.lt b hb
    · exact h2.lt b hb
    · exact h3.lt b hb
  flat := false
  flt h := by cases h
theorem GMultiRule.rdmk {A : Nat → Prop} {w : World} {v0 : Value} {x0 : Int} {v1 : Value} {x1 : (List Int)} {v2 : Value} {x2 : (List Int)} {v3 : Value} {x3 : (List Int)} {v4 : Value} {x4 : Int} (h0 : Rd A w v0 x0) (h1 : Rd A w v1 x1) (h2 : Rd A w v2 x2) (h3 : Rd A w v3 x3) (h4 : Rd A w v4 x4) : Rd A w (.agg #[v0, v1, v2, v3, v4]) (⟨x0, x1, x2, x3, x4⟩ : GMultiRule) := by
  have e0 := Rd.int h0
  subst e0
  have e4 := Rd.int h4
  subst e4
  exact ⟨[_, _, _, _, _], rfl, v1, v2, v3, rfl, h1, h2, h3⟩
theorem GMultiRule.open {A : Nat → Prop} {w : World} {v : Value} {t : GMultiRule} (h : Rd A w v t) : ∃ v1 v2 v3, v = .agg #[.int .i64 t.State, v1, v2, v3, .int .i64 t.Next] ∧ Rd A w v1 t.Read ∧ Rd A w v2 t.Write ∧ Rd A w v3 t.Move := by
  obtain ⟨cs, e, h⟩ := h
  obtain ⟨v1, v2, v3, rfl, h1, h2, h3⟩ := h
  exact ⟨v1, v2, v3, e, h1, h2, h3⟩
theorem GMultiRule.opens (t : GMultiRule) : Opens t (fun x : Value × Value × Value => .agg #[.int .i64 t.State, x.1, x.2.1, x.2.2, .int .i64 t.Next]) (fun x => [.rd x.1 t.Read, .rd x.2.1 t.Write, .rd x.2.2 t.Move]) := by
  intro A B w v h
  obtain ⟨v1, v2, v3, e, h1, h2, h3⟩ := GMultiRule.open h
  refine ⟨(v1, v2, v3), e, ?_⟩
  intro f hf
  simp only [List.mem_cons, List.not_mem_nil, or_false] at hf
  rcases hf with rfl | rfl | rfl
  · exact ⟨⟨rfl, rfl⟩, h1⟩
  · exact ⟨⟨rfl, rfl⟩, h2⟩
  · exact ⟨⟨rfl, rfl⟩, h3⟩
theorem GMultiRule.at_State (t : GMultiRule) : Part 0 t t.State := by
  intro A w cs h
  obtain ⟨v1, v2, v3, rfl, h1, h2, h3⟩ := h
  refine ⟨[.int .i64 t.State], ?_, rfl⟩
  intro j u hj
  match j, hj with
  | 0, hj => simpa using hj
theorem GMultiRule.at_Read (t : GMultiRule) : Part 1 t t.Read := by
  intro A w cs h
  obtain ⟨v1, v2, v3, rfl, h1, h2, h3⟩ := h
  refine ⟨[v1], ?_, h1.cell rfl⟩
  intro j u hj
  match j, hj with
  | 0, hj => simpa using hj
theorem GMultiRule.at_Write (t : GMultiRule) : Part 2 t t.Write := by
  intro A w cs h
  obtain ⟨v1, v2, v3, rfl, h1, h2, h3⟩ := h
  refine ⟨[v2], ?_, h2.cell rfl⟩
  intro j u hj
  match j, hj with
  | 0, hj => simpa using hj
theorem GMultiRule.at_Move (t : GMultiRule) : Part 3 t t.Move := by
  intro A w cs h
  obtain ⟨v1, v2, v3, rfl, h1, h2, h3⟩ := h
  refine ⟨[v3], ?_, h3.cell rfl⟩
  intro j u hj
  match j, hj with
  | 0, hj => simpa using hj
theorem GMultiRule.at_Next (t : GMultiRule) : Part 4 t t.Next := by
  intro A w cs h
  obtain ⟨v1, v2, v3, rfl, h1, h2, h3⟩ := h
  refine ⟨[.int .i64 t.Next], ?_, rfl⟩
  intro j u hj
  match j, hj with
  | 0, hj => simpa using hj
theorem GMultiRule.nb {x0 : Int} {x1 : (List Int)} {x2 : (List Int)} {x3 : (List Int)} {x4 : Int} (h1 : Nb x1) (h2 : Nb x2) (h3 : Nb x3) : Nb (⟨x0, x1, x2, x3, x4⟩ : GMultiRule) := by
  intro A w cs h
  obtain ⟨v1, v2, v3, rfl, r1, r2, r3⟩ := h
  obtain ⟨c1, e1, q1⟩ := r1
  obtain ⟨c2, e2, q2⟩ := r2
  obtain ⟨c3, e3, q3⟩ := r3
  exact ⟨v1, v2, v3, [], [], [], rfl, rfl, ⟨c1, e1, h1 _ _ _ q1⟩, ⟨c2, e2, h2 _ _ _ q2⟩, ⟨c3, e3, h3 _ _ _ q3⟩⟩
theorem GMultiRule.dw {w : World} {x0 : Int} {x1 : (List Int)} {x2 : (List Int)} {x3 : (List Int)} {x4 : Int} {v1 : Value} {v2 : Value} {v3 : Value} {C0 C1 C2 C3 : List Nat} (h1 : Dw w v1 x1 C0 C1) (h2 : Dw w v2 x2 C1 C2) (h3 : Dw w v3 x3 C2 C3) : Dw w (.agg #[.int .i64 x0, v1, v2, v3, .int .i64 x4]) (⟨x0, x1, x2, x3, x4⟩ : GMultiRule) C0 C3 := by
  intro hn
  obtain ⟨B1, B2, B3, a0, a1, a2, nd, mem, sub⟩ := h1.three h2 h3 hn
  exact ⟨_, ⟨[.int .i64 x0, v1, v2, v3, .int .i64 x4], rfl, v1, v2, v3, B1, B2, B3, rfl, rfl, a0, a1, a2⟩, nd, mem, sub⟩
theorem GMultiRule.fs_State (y : GMultiRule) : FSt 0 y (fun z => (⟨z, y.Read, y.Write, y.Move, y.Next⟩ : GMultiRule)) := by
  intro w c Bi h
  obtain ⟨v1, v2, v3, B1, B2, B3, rfl, rfl, h1, h2, h3⟩ := h
  exact ⟨by simp, fun k => ⟨v1, v2, v3, _, _, _, rfl, rfl, h1, h2, h3⟩⟩
theorem GMultiRule.fc_Read (y : GMultiRule) : FC 1 y y.Read (fun z => (⟨y.State, z, y.Write, y.Move, y.Next⟩ : GMultiRule)) := by
  intro w c Bi h
  obtain ⟨v1, v2, v3, B1, B2, B3, rfl, rfl, h1, h2, h3⟩ := h
  refine ⟨v1, _, rfl, h1.ds, fun hn => ?_, fun b hb => by simp [hb], fun w' z' hz hn hf => ?_⟩
  · simp only [List.nodup_append] at hn
    first | exact hn.1 | exact hn.2.1 | exact hn.1.1 | exact hn.1.2.1
  · exact ⟨v1, v2, v3, _, _, _, rfl, rfl, hz.dc, h2.frame (fun b hb => hf b (by simp [hb]) (fun hm => by simp only [List.nodup_append, List.mem_append] at hn; grind)), h3.frame (fun b hb => hf b (by simp [hb]) (fun hm => by simp only [List.nodup_append, List.mem_append] at hn; grind))⟩
theorem GMultiRule.fc_Write (y : GMultiRule) : FC 2 y y.Write (fun z => (⟨y.State, y.Read, z, y.Move, y.Next⟩ : GMultiRule)) := by
  intro w c Bi h
  obtain ⟨v1, v2, v3, B1, B2, B3, rfl, rfl, h1, h2, h3⟩ := h
  refine ⟨v2, _, rfl, h2.ds, fun hn => ?_, fun b hb => by simp [hb], fun w' z' hz hn hf => ?_⟩
  · simp only [List.nodup_append] at hn
    first | exact hn.1 | exact hn.2.1 | exact hn.1.1 | exact hn.1.2.1
  · exact ⟨v1, v2, v3, _, _, _, rfl, rfl, h1.frame (fun b hb => hf b (by simp [hb]) (fun hm => by simp only [List.nodup_append, List.mem_append] at hn; grind)), hz.dc, h3.frame (fun b hb => hf b (by simp [hb]) (fun hm => by simp only [List.nodup_append, List.mem_append] at hn; grind))⟩
theorem GMultiRule.fc_Move (y : GMultiRule) : FC 3 y y.Move (fun z => (⟨y.State, y.Read, y.Write, z, y.Next⟩ : GMultiRule)) := by
  intro w c Bi h
  obtain ⟨v1, v2, v3, B1, B2, B3, rfl, rfl, h1, h2, h3⟩ := h
  refine ⟨v3, _, rfl, h3.ds, fun hn => ?_, fun b hb => by simp [hb], fun w' z' hz hn hf => ?_⟩
  · simp only [List.nodup_append] at hn
    first | exact hn.1 | exact hn.2.1 | exact hn.1.1 | exact hn.1.2.1
  · exact ⟨v1, v2, v3, _, _, _, rfl, rfl, h1.frame (fun b hb => hf b (by simp [hb]) (fun hm => by simp only [List.nodup_append, List.mem_append] at hn; grind)), h2.frame (fun b hb => hf b (by simp [hb]) (fun hm => by simp only [List.nodup_append, List.mem_append] at hn; grind)), hz.dc⟩
theorem GMultiRule.fs_Next (y : GMultiRule) : FSt 4 y (fun z => (⟨y.State, y.Read, y.Write, y.Move, z⟩ : GMultiRule)) := by
  intro w c Bi h
  obtain ⟨v1, v2, v3, B1, B2, B3, rfl, rfl, h1, h2, h3⟩ := h
  exact ⟨by simp, fun k => ⟨v1, v2, v3, _, _, _, rfl, rfl, h1, h2, h3⟩⟩
theorem GMultiRule.zero {A : Nat → Prop} {w : World} : ∃ zc : List Value, (Value.agg #[.int .i64 0, .slice none 0 0, .slice none 0 0, .slice none 0 0, .int .i64 0]).cells = zc.toArray ∧ Rep.rdc A w zc (⟨0, [], [], [], 0⟩ : GMultiRule) := ⟨[.int .i64 0, .slice none 0 0, .slice none 0 0, .slice none 0 0, .int .i64 0], rfl, _, _, _, rfl, rdNil, rdNil, rdNil⟩

structure GMulti where
  Tapes : Int
  Symbols : Int
  States : Int
  Rules : (List GMultiRule)
instance : Rep GMulti where
  sz := 4
  agg := true
  rdc A w cs t := ∃ v3, cs = [.int .i64 t.Tapes, .int .i64 t.Symbols, .int .i64 t.States, v3] ∧ Rd A w v3 t.Rules
  len := by
    intro A w cs t h
    obtain ⟨v3, rfl, h3⟩ := h
    rfl
  one := by
    intro A w cs t h c hc
    obtain ⟨v3, rfl, h3⟩ := h
    simp only [List.mem_cons, List.not_mem_nil, or_false] at hc
    rcases hc with rfl | rfl | rfl | rfl
    · rfl
    · rfl
    · rfl
    · exact (Rd.sl h3).oneCell
  pos := by decide
  single h := by cases h
  frame := by
    intro A A' w w' cs t h hf
    obtain ⟨v3, rfl, h3⟩ := h
    exact ⟨v3, rfl, h3.frame hf⟩
  dc w cs t B := ∃ v3 B3, cs = [.int .i64 t.Tapes, .int .i64 t.Symbols, .int .i64 t.States, v3] ∧ B = B3 ∧ Dc w v3 t.Rules B3
  dcf := by
    intro w w' cs t B h hf
    obtain ⟨v3, B3, rfl, rfl, h3⟩ := h
    exact ⟨v3, _, rfl, rfl, h3.frame (fun b hb => hf b (by simp [hb]))⟩
  dcr := by
    intro A w cs t B h hA
    obtain ⟨v3, B3, rfl, rfl, h3⟩ := h
    exact ⟨v3, rfl, h3.rd (fun b hb => hA b (by simp [hb]))⟩
  dlt := by
    intro w cs t B h b hb
    obtain ⟨v3, B3, rfl, rfl, h3⟩ := h
    exact h3.lt b hb
  flat := false
  flt h := by cases h
theorem GMulti.rdmk {A : Nat → Prop} {w : World} {v0 : Value} {x0 : Int} {v1 : Value} {x1 : Int} {v2 : Value} {x2 : Int} {v3 : Value} {x3 : (List GMultiRule)} (h0 : Rd A w v0 x0) (h1 : Rd A w v1 x1) (h2 : Rd A w v2 x2) (h3 : Rd A w v3 x3) : Rd A w (.agg #[v0, v1, v2, v3]) (⟨x0, x1, x2, x3⟩ : GMulti) := by
  have e0 := Rd.int h0
  subst e0
  have e1 := Rd.int h1
  subst e1
  have e2 := Rd.int h2
  subst e2
  exact ⟨[_, _, _, _], rfl, v3, rfl, h3⟩
theorem GMulti.open {A : Nat → Prop} {w : World} {v : Value} {t : GMulti} (h : Rd A w v t) : ∃ v3, v = .agg #[.int .i64 t.Tapes, .int .i64 t.Symbols, .int .i64 t.States, v3] ∧ Rd A w v3 t.Rules := by
  obtain ⟨cs, e, h⟩ := h
  obtain ⟨v3, rfl, h3⟩ := h
  exact ⟨v3, e, h3⟩
theorem GMulti.opens (t : GMulti) : Opens t (fun x : Value => .agg #[.int .i64 t.Tapes, .int .i64 t.Symbols, .int .i64 t.States, x]) (fun x => [.rd x t.Rules]) := by
  intro A B w v h
  obtain ⟨v3, e, h3⟩ := GMulti.open h
  refine ⟨v3, e, ?_⟩
  intro f hf
  simp only [List.mem_cons, List.not_mem_nil, or_false] at hf
  rcases hf with rfl
  · exact ⟨⟨rfl, rfl⟩, h3⟩
theorem GMulti.opT (t : Tk GMulti) {y : GMulti} (hy : t.x = y) : Opens t (fun x : Value => .agg #[.int .i64 y.Tapes, .int .i64 y.Symbols, .int .i64 y.States, x]) (fun x => [.rd x (⟨y.Rules, t.B⟩ : Tk (List GMultiRule))]) := by
  subst hy
  intro A B w v h
  obtain ⟨cs, e, ⟨v3, B2, rfl, hB, h2⟩, hA⟩ := h
  subst hB
  obtain ⟨cs2, e2, h2⟩ := h2
  refine ⟨v3, e, ?_⟩
  intro f hf
  simp only [List.mem_cons, List.not_mem_nil, or_false] at hf
  rcases hf with rfl
  exact ⟨⟨rfl, rfl⟩, cs2, e2, h2, hA⟩
theorem GMulti.at_Tapes (t : GMulti) : Part 0 t t.Tapes := by
  intro A w cs h
  obtain ⟨v3, rfl, h3⟩ := h
  refine ⟨[.int .i64 t.Tapes], ?_, rfl⟩
  intro j u hj
  match j, hj with
  | 0, hj => simpa using hj
theorem GMulti.at_Symbols (t : GMulti) : Part 1 t t.Symbols := by
  intro A w cs h
  obtain ⟨v3, rfl, h3⟩ := h
  refine ⟨[.int .i64 t.Symbols], ?_, rfl⟩
  intro j u hj
  match j, hj with
  | 0, hj => simpa using hj
theorem GMulti.at_States (t : GMulti) : Part 2 t t.States := by
  intro A w cs h
  obtain ⟨v3, rfl, h3⟩ := h
  refine ⟨[.int .i64 t.States], ?_, rfl⟩
  intro j u hj
  match j, hj with
  | 0, hj => simpa using hj
theorem GMulti.at_Rules (t : GMulti) : Part 3 t t.Rules := by
  intro A w cs h
  obtain ⟨v3, rfl, h3⟩ := h
  refine ⟨[v3], ?_, h3.cell rfl⟩
  intro j u hj
  match j, hj with
  | 0, hj => simpa using hj
theorem GMulti.nb {x0 : Int} {x1 : Int} {x2 : Int} {x3 : (List GMultiRule)} (h3 : Nb x3) : Nb (⟨x0, x1, x2, x3⟩ : GMulti) := by
  intro A w cs h
  obtain ⟨v3, rfl, r3⟩ := h
  obtain ⟨c3, e3, q3⟩ := r3
  exact ⟨v3, [], rfl, rfl, ⟨c3, e3, h3 _ _ _ q3⟩⟩
theorem GMulti.dw {w : World} {x0 : Int} {x1 : Int} {x2 : Int} {x3 : (List GMultiRule)} {v3 : Value} {C0 C1 : List Nat} (h3 : Dw w v3 x3 C0 C1) : Dw w (.agg #[.int .i64 x0, .int .i64 x1, .int .i64 x2, v3]) (⟨x0, x1, x2, x3⟩ : GMulti) C0 C1 := by
  intro hn
  obtain ⟨B, a0, nd, mem, sub⟩ := h3 hn
  exact ⟨_, ⟨[.int .i64 x0, .int .i64 x1, .int .i64 x2, v3], rfl, v3, B, rfl, rfl, a0⟩, nd, mem, sub⟩
theorem GMulti.fs_Tapes (y : GMulti) : FSt 0 y (fun z => (⟨z, y.Symbols, y.States, y.Rules⟩ : GMulti)) := by
  intro w c Bi h
  obtain ⟨v3, B3, rfl, rfl, h3⟩ := h
  exact ⟨by simp, fun k => ⟨v3, _, rfl, rfl, h3⟩⟩
theorem GMulti.fs_Symbols (y : GMulti) : FSt 1 y (fun z => (⟨y.Tapes, z, y.States, y.Rules⟩ : GMulti)) := by
  intro w c Bi h
  obtain ⟨v3, B3, rfl, rfl, h3⟩ := h
  exact ⟨by simp, fun k => ⟨v3, _, rfl, rfl, h3⟩⟩
theorem GMulti.fs_States (y : GMulti) : FSt 2 y (fun z => (⟨y.Tapes, y.Symbols, z, y.Rules⟩ : GMulti)) := by
  intro w c Bi h
  obtain ⟨v3, B3, rfl, rfl, h3⟩ := h
  exact ⟨by simp, fun k => ⟨v3, _, rfl, rfl, h3⟩⟩
theorem GMulti.fc_Rules (y : GMulti) : FC 3 y y.Rules (fun z => (⟨y.Tapes, y.Symbols, y.States, z⟩ : GMulti)) := by
  intro w c Bi h
  obtain ⟨v3, B3, rfl, rfl, h3⟩ := h
  refine ⟨v3, _, rfl, h3.ds, fun hn => ?_, fun b hb => hb, fun w' z' hz hn hf => ?_⟩
  · exact hn
  · exact ⟨v3, _, rfl, rfl, hz.dc⟩
theorem GMulti.zero {A : Nat → Prop} {w : World} : ∃ zc : List Value, (Value.agg #[.int .i64 0, .int .i64 0, .int .i64 0, .slice none 0 0]).cells = zc.toArray ∧ Rep.rdc A w zc (⟨0, 0, 0, []⟩ : GMulti) := ⟨[.int .i64 0, .int .i64 0, .int .i64 0, .slice none 0 0], rfl, _, rfl, rdNil⟩

structure Greading where
  state : Int
  symbols_0 : Int
  symbols_1 : Int
  symbols_2 : Int
instance : DecidableEq Greading := fun a b =>
  if h : a.state = b.state ∧ a.symbols_0 = b.symbols_0 ∧ a.symbols_1 = b.symbols_1 ∧ a.symbols_2 = b.symbols_2 then isTrue (by cases a; cases b; simp_all) else isFalse (by rintro rfl; simp at h)
instance : Rep Greading where
  sz := 4
  agg := true
  rdc A w cs t := cs = [.int .i64 t.state, .int .i64 t.symbols_0, .int .i64 t.symbols_1, .int .i64 t.symbols_2]
  len := by
    intro A w cs t h
    obtain rfl := h
    rfl
  one := by
    intro A w cs t h c hc
    obtain rfl := h
    simp only [List.mem_cons, List.not_mem_nil, or_false] at hc
    rcases hc with rfl | rfl | rfl | rfl
    · rfl
    · rfl
    · rfl
    · rfl
  pos := by decide
  single h := by cases h
  frame := by
    intro A A' w w' cs t h hf
    obtain rfl := h
    exact rfl
  dc _ cs t B := cs = [.int .i64 t.state, .int .i64 t.symbols_0, .int .i64 t.symbols_1, .int .i64 t.symbols_2] ∧ B = []
  dcf h _ := h
  dcr h _ := h.1
  dlt h b hb := by simp [h.2] at hb
  flat := true
  flt _ h := ⟨h, rfl⟩
theorem Greading.rdmk {A : Nat → Prop} {w : World} {v0 : Value} {x0 : Int} {v1 : Value} {x1 : Int} {v2 : Value} {x2 : Int} {v3 : Value} {x3 : Int} (h0 : Rd A w v0 x0) (h1 : Rd A w v1 x1) (h2 : Rd A w v2 x2) (h3 : Rd A w v3 x3) : Rd A w (.agg #[v0, v1, v2, v3]) (⟨x0, x1, x2, x3⟩ : Greading) := by
  have e0 := Rd.int h0
  subst e0
  have e1 := Rd.int h1
  subst e1
  have e2 := Rd.int h2
  subst e2
  have e3 := Rd.int h3
  subst e3
  exact ⟨[_, _, _, _], rfl, rfl⟩
theorem Greading.open {A : Nat → Prop} {w : World} {v : Value} {t : Greading} (h : Rd A w v t) : v = .agg #[.int .i64 t.state, .int .i64 t.symbols_0, .int .i64 t.symbols_1, .int .i64 t.symbols_2] := by
  obtain ⟨cs, e, h⟩ := h
  subst h
  exact e
theorem Greading.opens (t : Greading) : Opens t (fun _ : Unit => .agg #[.int .i64 t.state, .int .i64 t.symbols_0, .int .i64 t.symbols_1, .int .i64 t.symbols_2]) (fun _ => []) := by
  intro A B w v h
  exact ⟨(), Greading.open h, by simp⟩
theorem Greading.at_state (t : Greading) : Part 0 t t.state := by
  intro A w cs h
  obtain rfl := h
  refine ⟨[.int .i64 t.state], ?_, rfl⟩
  intro j u hj
  match j, hj with
  | 0, hj => simpa using hj
theorem Greading.at_symbols_0 (t : Greading) : Part 1 t t.symbols_0 := by
  intro A w cs h
  obtain rfl := h
  refine ⟨[.int .i64 t.symbols_0], ?_, rfl⟩
  intro j u hj
  match j, hj with
  | 0, hj => simpa using hj
theorem Greading.at_symbols_1 (t : Greading) : Part 2 t t.symbols_1 := by
  intro A w cs h
  obtain rfl := h
  refine ⟨[.int .i64 t.symbols_1], ?_, rfl⟩
  intro j u hj
  match j, hj with
  | 0, hj => simpa using hj
theorem Greading.at_symbols_2 (t : Greading) : Part 3 t t.symbols_2 := by
  intro A w cs h
  obtain rfl := h
  refine ⟨[.int .i64 t.symbols_2], ?_, rfl⟩
  intro j u hj
  match j, hj with
  | 0, hj => simpa using hj
def Greading.enc (t : Greading) : Value := .agg #[.int .i64 t.state, .int .i64 t.symbols_0, .int .i64 t.symbols_1, .int .i64 t.symbols_2]
theorem Greading.nb {x : Greading} : Nb x := nb_flat rfl x
theorem Greading.dw {w : World} {x0 : Int} {x1 : Int} {x2 : Int} {x3 : Int} {C : List Nat} : Dw w (.agg #[.int .i64 x0, .int .i64 x1, .int .i64 x2, .int .i64 x3]) (⟨x0, x1, x2, x3⟩ : Greading) C C := fun _ => ⟨[], ⟨[.int .i64 x0, .int .i64 x1, .int .i64 x2, .int .i64 x3], rfl, rfl, rfl⟩, by simp, by simp, List.Sublist.refl _⟩
theorem Greading.fs_state (y : Greading) : FSt 0 y (fun z => (⟨z, y.symbols_0, y.symbols_1, y.symbols_2⟩ : Greading)) := by
  intro w c Bi h
  obtain ⟨rfl, rfl⟩ := h
  exact ⟨by simp, fun k => ⟨rfl, rfl⟩⟩
theorem Greading.fs_symbols_0 (y : Greading) : FSt 1 y (fun z => (⟨y.state, z, y.symbols_1, y.symbols_2⟩ : Greading)) := by
  intro w c Bi h
  obtain ⟨rfl, rfl⟩ := h
  exact ⟨by simp, fun k => ⟨rfl, rfl⟩⟩
theorem Greading.fs_symbols_1 (y : Greading) : FSt 2 y (fun z => (⟨y.state, y.symbols_0, z, y.symbols_2⟩ : Greading)) := by
  intro w c Bi h
  obtain ⟨rfl, rfl⟩ := h
  exact ⟨by simp, fun k => ⟨rfl, rfl⟩⟩
theorem Greading.fs_symbols_2 (y : Greading) : FSt 3 y (fun z => (⟨y.state, y.symbols_0, y.symbols_1, z⟩ : Greading)) := by
  intro w c Bi h
  obtain ⟨rfl, rfl⟩ := h
  exact ⟨by simp, fun k => ⟨rfl, rfl⟩⟩
theorem Greading.zero {A : Nat → Prop} {w : World} : ∃ zc : List Value, (Value.agg #[.int .i64 0, .int .i64 0, .int .i64 0, .int .i64 0]).cells = zc.toArray ∧ Rep.rdc A w zc (⟨0, 0, 0, 0⟩ : Greading) := ⟨[.int .i64 0, .int .i64 0, .int .i64 0, .int .i64 0], rfl, rfl⟩

end Go.Fn
