/-
  The structures of the program, as plain Lean data, and how they are laid in memory. No condition.
-/
import Derived.Test.YtabpcmbohmodnaaDoorPure
namespace Go.Fn
open Go Go.Tc

structure GDomino where
  Top : (List Int)
  Bottom : (List Int)
instance : DecidableEq GDomino := fun a b =>
  if h : a.Top = b.Top ∧ a.Bottom = b.Bottom then isTrue (by cases a; cases b; simp_all) else isFalse (by rintro rfl; simp at h)
instance : Rep GDomino where
  sz := 2
  agg := true
  rdc A w cs t := ∃ v0 v1, cs = [v0, v1] ∧ Rd A w v0 t.Top ∧ Rd A w v1 t.Bottom
  len := by
    intro A w cs t h
    obtain ⟨v0, v1, rfl, h0, h1⟩ := h
    rfl
  one := by
    intro A w cs t h c hc
    obtain ⟨v0, v1, rfl, h0, h1⟩ := h
    simp only [List.mem_cons, List.not_mem_nil, or_false] at hc
    rcases hc with rfl | rfl
    · exact (Rd.sl h0).oneCell
    · exact (Rd.sl h1).oneCell
  pos := by decide
  single h := by cases h
  frame := by
    intro A A' w w' cs t h hf
    obtain ⟨v0, v1, rfl, h0, h1⟩ := h
    exact ⟨v0, v1, rfl, h0.frame hf, h1.frame hf⟩
  dc w cs t B := ∃ v0 v1 B0 B1, cs = [v0, v1] ∧ B = B0 ++ B1 ∧ Dc w v0 t.Top B0 ∧ Dc w v1 t.Bottom B1
  dcf := by
    intro w w' cs t B h hf
    obtain ⟨v0, v1, B0, B1, rfl, rfl, h0, h1⟩ := h
    exact ⟨v0, v1, _, _, rfl, rfl, h0.frame (fun b hb => hf b (by simp [hb])), h1.frame (fun b hb => hf b (by simp [hb]))⟩
  dcr := by
    intro A w cs t B h hA
    obtain ⟨v0, v1, B0, B1, rfl, rfl, h0, h1⟩ := h
    exact ⟨v0, v1, rfl, h0.rd (fun b hb => hA b (by simp [hb])), h1.rd (fun b hb => hA b (by simp [hb]))⟩
  dlt := by
    intro w cs t B h b hb
    obtain ⟨v0, v1, B0, B1, rfl, rfl, h0, h1⟩ := h
    simp only [List.append_assoc, List.mem_append] at hb
    rcases hb with hb | hb
    · exact h0.lt b hb
    · exact h1.lt b hb
  flat := false
  flt h := by cases h
theorem GDomino.rdmk {A : Nat → Prop} {w : World} {v0 : Value} {x0 : (List Int)} {v1 : Value} {x1 : (List Int)} (h0 : Rd A w v0 x0) (h1 : Rd A w v1 x1) : Rd A w (.agg #[v0, v1]) (⟨x0, x1⟩ : GDomino) := by
  exact ⟨[_, _], rfl, v0, v1, rfl, h0, h1⟩
theorem GDomino.open {A : Nat → Prop} {w : World} {v : Value} {t : GDomino} (h : Rd A w v t) : ∃ v0 v1, v = .agg #[v0, v1] ∧ Rd A w v0 t.Top ∧ Rd A w v1 t.Bottom := by
  obtain ⟨cs, e, h⟩ := h
  obtain ⟨v0, v1, rfl, h0, h1⟩ := h
  exact ⟨v0, v1, e, h0, h1⟩
theorem GDomino.opens (t : GDomino) : Opens t (fun x : Value × Value => .agg #[x.1, x.2]) (fun x => [.rd x.1 t.Top, .rd x.2 t.Bottom]) := by
  intro A B w v h
  obtain ⟨v0, v1, e, h0, h1⟩ := GDomino.open h
  refine ⟨(v0, v1), e, ?_⟩
  intro f hf
  simp only [List.mem_cons, List.not_mem_nil, or_false] at hf
  rcases hf with rfl | rfl
  · exact ⟨⟨rfl, rfl⟩, h0⟩
  · exact ⟨⟨rfl, rfl⟩, h1⟩
theorem GDomino.two (y : GDomino) : Two y y.Top y.Bottom := fun w cs B => ⟨fun ⟨v0, v1, B0, B1, e, eB, h0, h1⟩ => ⟨v0, v1, B0, B1, e, eB, h0.ds, h1.ds⟩, fun ⟨v0, v1, B0, B1, e, eB, h0, h1⟩ => ⟨v0, v1, B0, B1, e, eB, h0.dc, h1.dc⟩⟩
theorem GDomino.at_Top (t : GDomino) : Part 0 t t.Top := by
  intro A w cs h
  obtain ⟨v0, v1, rfl, h0, h1⟩ := h
  refine ⟨[v0], ?_, h0.cell rfl⟩
  intro j u hj
  match j, hj with
  | 0, hj => simpa using hj
theorem GDomino.at_Bottom (t : GDomino) : Part 1 t t.Bottom := by
  intro A w cs h
  obtain ⟨v0, v1, rfl, h0, h1⟩ := h
  refine ⟨[v1], ?_, h1.cell rfl⟩
  intro j u hj
  match j, hj with
  | 0, hj => simpa using hj
theorem GDomino.nb {x0 : (List Int)} {x1 : (List Int)} (h0 : Nb x0) (h1 : Nb x1) : Nb (⟨x0, x1⟩ : GDomino) := by
  intro A w cs h
  obtain ⟨v0, v1, rfl, r0, r1⟩ := h
  obtain ⟨c0, e0, q0⟩ := r0
  obtain ⟨c1, e1, q1⟩ := r1
  exact ⟨v0, v1, [], [], rfl, rfl, ⟨c0, e0, h0 _ _ _ q0⟩, ⟨c1, e1, h1 _ _ _ q1⟩⟩
theorem GDomino.dw {w : World} {x0 : (List Int)} {x1 : (List Int)} {v0 : Value} {v1 : Value} {C0 C1 C2 : List Nat} (h0 : Dw w v0 x0 C0 C1) (h1 : Dw w v1 x1 C1 C2) : Dw w (.agg #[v0, v1]) (⟨x0, x1⟩ : GDomino) C0 C2 := by
  intro hn
  obtain ⟨B1, B2, a0, a1, nd, mem, sub⟩ := h0.two h1 hn
  exact ⟨_, ⟨[v0, v1], rfl, v0, v1, B1, B2, rfl, rfl, a0, a1⟩, nd, mem, sub⟩
theorem GDomino.fc_Top (y : GDomino) : FC 0 y y.Top (fun z => (⟨z, y.Bottom⟩ : GDomino)) := by
  intro w c Bi h
  obtain ⟨v0, v1, B0, B1, rfl, rfl, h0, h1⟩ := h
  refine ⟨v0, _, rfl, h0.ds, fun hn => ?_, fun b hb => by simp [hb], fun w' z' hz hn hf => ?_⟩
  · simp only [List.nodup_append] at hn
    first | exact hn.1 | exact hn.2.1 | exact hn.1.1 | exact hn.1.2.1
  · exact ⟨v0, v1, _, _, rfl, rfl, hz.dc, h1.frame (fun b hb => hf b (by simp [hb]) (fun hm => by simp only [List.nodup_append, List.mem_append] at hn; grind))⟩
theorem GDomino.fc_Bottom (y : GDomino) : FC 1 y y.Bottom (fun z => (⟨y.Top, z⟩ : GDomino)) := by
  intro w c Bi h
  obtain ⟨v0, v1, B0, B1, rfl, rfl, h0, h1⟩ := h
  refine ⟨v1, _, rfl, h1.ds, fun hn => ?_, fun b hb => by simp [hb], fun w' z' hz hn hf => ?_⟩
  · simp only [List.nodup_append] at hn
    first | exact hn.1 | exact hn.2.1 | exact hn.1.1 | exact hn.1.2.1
  · exact ⟨v0, v1, _, _, rfl, rfl, h0.frame (fun b hb => hf b (by simp [hb]) (fun hm => by simp only [List.nodup_append, List.mem_append] at hn; grind)), hz.dc⟩
theorem GDomino.zero {A : Nat → Prop} {w : World} : ∃ zc : List Value, (Value.agg #[.slice none 0 0, .slice none 0 0]).cells = zc.toArray ∧ Rep.rdc A w zc (⟨[], []⟩ : GDomino) := ⟨[.slice none 0 0, .slice none 0 0], rfl, _, _, rfl, rdNil, rdNil⟩

structure Grest where
  top : Bool
  word : (List Int)
  domino : Int
  parent : Int
instance : DecidableEq Grest := fun a b =>
  if h : a.top = b.top ∧ a.word = b.word ∧ a.domino = b.domino ∧ a.parent = b.parent then isTrue (by cases a; cases b; simp_all) else isFalse (by rintro rfl; simp at h)
instance : Rep Grest where
  sz := 4
  agg := true
  rdc A w cs t := ∃ v1, cs = [.bool t.top, v1, .int .i64 t.domino, .int .i64 t.parent] ∧ Rd A w v1 t.word
  len := by
    intro A w cs t h
    obtain ⟨v1, rfl, h1⟩ := h
    rfl
  one := by
    intro A w cs t h c hc
    obtain ⟨v1, rfl, h1⟩ := h
    simp only [List.mem_cons, List.not_mem_nil, or_false] at hc
    rcases hc with rfl | rfl | rfl | rfl
    · rfl
    · exact (Rd.sl h1).oneCell
    · rfl
    · rfl
  pos := by decide
  single h := by cases h
  frame := by
    intro A A' w w' cs t h hf
    obtain ⟨v1, rfl, h1⟩ := h
    exact ⟨v1, rfl, h1.frame hf⟩
  dc w cs t B := ∃ v1 B1, cs = [.bool t.top, v1, .int .i64 t.domino, .int .i64 t.parent] ∧ B = B1 ∧ Dc w v1 t.word B1
  dcf := by
    intro w w' cs t B h hf
    obtain ⟨v1, B1, rfl, rfl, h1⟩ := h
    exact ⟨v1, _, rfl, rfl, h1.frame (fun b hb => hf b (by simp [hb]))⟩
  dcr := by
    intro A w cs t B h hA
    obtain ⟨v1, B1, rfl, rfl, h1⟩ := h
    exact ⟨v1, rfl, h1.rd (fun b hb => hA b (by simp [hb]))⟩
  dlt := by
    intro w cs t B h b hb
    obtain ⟨v1, B1, rfl, rfl, h1⟩ := h
    exact h1.lt b hb
  flat := false
  flt h := by cases h
theorem Grest.rdmk {A : Nat → Prop} {w : World} {v0 : Value} {x0 : Bool} {v1 : Value} {x1 : (List Int)} {v2 : Value} {x2 : Int} {v3 : Value} {x3 : Int} (h0 : Rd A w v0 x0) (h1 : Rd A w v1 x1) (h2 : Rd A w v2 x2) (h3 : Rd A w v3 x3) : Rd A w (.agg #[v0, v1, v2, v3]) (⟨x0, x1, x2, x3⟩ : Grest) := by
  have e0 := Rd.bool h0
  subst e0
  have e2 := Rd.int h2
  subst e2
  have e3 := Rd.int h3
  subst e3
  exact ⟨[_, _, _, _], rfl, v1, rfl, h1⟩
theorem Grest.open {A : Nat → Prop} {w : World} {v : Value} {t : Grest} (h : Rd A w v t) : ∃ v1, v = .agg #[.bool t.top, v1, .int .i64 t.domino, .int .i64 t.parent] ∧ Rd A w v1 t.word := by
  obtain ⟨cs, e, h⟩ := h
  obtain ⟨v1, rfl, h1⟩ := h
  exact ⟨v1, e, h1⟩
theorem Grest.opens (t : Grest) : Opens t (fun x : Value => .agg #[.bool t.top, x, .int .i64 t.domino, .int .i64 t.parent]) (fun x => [.rd x t.word]) := by
  intro A B w v h
  obtain ⟨v1, e, h1⟩ := Grest.open h
  refine ⟨v1, e, ?_⟩
  intro f hf
  simp only [List.mem_cons, List.not_mem_nil, or_false] at hf
  rcases hf with rfl
  · exact ⟨⟨rfl, rfl⟩, h1⟩
theorem Grest.opT (t : Tk Grest) {y : Grest} (hy : t.x = y) : Opens t (fun x : Value => .agg #[.bool y.top, x, .int .i64 y.domino, .int .i64 y.parent]) (fun x => [.rd x (⟨y.word, t.B⟩ : Tk (List Int))]) := by
  subst hy
  intro A B w v h
  obtain ⟨cs, e, ⟨v1, B2, rfl, hB, h2⟩, hA⟩ := h
  subst hB
  obtain ⟨cs2, e2, h2⟩ := h2
  refine ⟨v1, e, ?_⟩
  intro f hf
  simp only [List.mem_cons, List.not_mem_nil, or_false] at hf
  rcases hf with rfl
  exact ⟨⟨rfl, rfl⟩, cs2, e2, h2, hA⟩
theorem Grest.at_top (t : Grest) : Part 0 t t.top := by
  intro A w cs h
  obtain ⟨v1, rfl, h1⟩ := h
  refine ⟨[.bool t.top], ?_, rfl⟩
  intro j u hj
  match j, hj with
  | 0, hj => simpa using hj
theorem Grest.at_word (t : Grest) : Part 1 t t.word := by
  intro A w cs h
  obtain ⟨v1, rfl, h1⟩ := h
  refine ⟨[v1], ?_, h1.cell rfl⟩
  intro j u hj
  match j, hj with
  | 0, hj => simpa using hj
theorem Grest.at_domino (t : Grest) : Part 2 t t.domino := by
  intro A w cs h
  obtain ⟨v1, rfl, h1⟩ := h
  refine ⟨[.int .i64 t.domino], ?_, rfl⟩
  intro j u hj
  match j, hj with
  | 0, hj => simpa using hj
theorem Grest.at_parent (t : Grest) : Part 3 t t.parent := by
  intro A w cs h
  obtain ⟨v1, rfl, h1⟩ := h
  refine ⟨[.int .i64 t.parent], ?_, rfl⟩
  intro j u hj
  match j, hj with
  | 0, hj => simpa using hj
theorem Grest.nb {x0 : Bool} {x1 : (List Int)} {x2 : Int} {x3 : Int} (h1 : Nb x1) : Nb (⟨x0, x1, x2, x3⟩ : Grest) := by
  intro A w cs h
  obtain ⟨v1, rfl, r1⟩ := h
  obtain ⟨c1, e1, q1⟩ := r1
  exact ⟨v1, [], rfl, rfl, ⟨c1, e1, h1 _ _ _ q1⟩⟩
theorem Grest.dw {w : World} {x0 : Bool} {x1 : (List Int)} {x2 : Int} {x3 : Int} {v1 : Value} {C0 C1 : List Nat} (h1 : Dw w v1 x1 C0 C1) : Dw w (.agg #[.bool x0, v1, .int .i64 x2, .int .i64 x3]) (⟨x0, x1, x2, x3⟩ : Grest) C0 C1 := by
  intro hn
  obtain ⟨B, a0, nd, mem, sub⟩ := h1 hn
  exact ⟨_, ⟨[.bool x0, v1, .int .i64 x2, .int .i64 x3], rfl, v1, B, rfl, rfl, a0⟩, nd, mem, sub⟩
theorem Grest.fc_word (y : Grest) : FC 1 y y.word (fun z => (⟨y.top, z, y.domino, y.parent⟩ : Grest)) := by
  intro w c Bi h
  obtain ⟨v1, B1, rfl, rfl, h1⟩ := h
  refine ⟨v1, _, rfl, h1.ds, fun hn => ?_, fun b hb => hb, fun w' z' hz hn hf => ?_⟩
  · exact hn
  · exact ⟨v1, _, rfl, rfl, hz.dc⟩
theorem Grest.sp_domino (y : Grest) : SP 2 y (fun z => (⟨y.top, y.word, z, y.parent⟩ : Grest)) := by
  intro A w c h
  obtain ⟨v1, rfl, h1⟩ := h
  exact ⟨by simp, fun k => ⟨v1, rfl, h1⟩⟩
theorem Grest.fs_domino (y : Grest) : FSt 2 y (fun z => (⟨y.top, y.word, z, y.parent⟩ : Grest)) := by
  intro w c Bi h
  obtain ⟨v1, B1, rfl, rfl, h1⟩ := h
  exact ⟨by simp, fun k => ⟨v1, _, rfl, rfl, h1⟩⟩
theorem Grest.sp_parent (y : Grest) : SP 3 y (fun z => (⟨y.top, y.word, y.domino, z⟩ : Grest)) := by
  intro A w c h
  obtain ⟨v1, rfl, h1⟩ := h
  exact ⟨by simp, fun k => ⟨v1, rfl, h1⟩⟩
theorem Grest.fs_parent (y : Grest) : FSt 3 y (fun z => (⟨y.top, y.word, y.domino, z⟩ : Grest)) := by
  intro w c Bi h
  obtain ⟨v1, B1, rfl, rfl, h1⟩ := h
  exact ⟨by simp, fun k => ⟨v1, _, rfl, rfl, h1⟩⟩
theorem Grest.zero {A : Nat → Prop} {w : World} : ∃ zc : List Value, (Value.agg #[.bool false, .slice none 0 0, .int .i64 0, .int .i64 0]).cells = zc.toArray ∧ Rep.rdc A w zc (⟨false, [], 0, 0⟩ : Grest) := ⟨[.bool false, .slice none 0 0, .int .i64 0, .int .i64 0], rfl, _, rfl, rdNil⟩

-- Gsolver: struct Gsolver

structure Gl32Rest where
  word : (List Int)
  upper : Bool
  before : Int
  domino : Int
instance : DecidableEq Gl32Rest := fun a b =>
  if h : a.word = b.word ∧ a.upper = b.upper ∧ a.before = b.before ∧ a.domino = b.domino then isTrue (by cases a; cases b; simp_all) else isFalse (by rintro rfl; simp at h)
instance : Rep Gl32Rest where
  sz := 4
  agg := true
  rdc A w cs t := ∃ v0, cs = [v0, .bool t.upper, .int .i64 t.before, .int .i64 t.domino] ∧ Rd A w v0 t.word
  len := by
    intro A w cs t h
    obtain ⟨v0, rfl, h0⟩ := h
    rfl
  one := by
    intro A w cs t h c hc
    obtain ⟨v0, rfl, h0⟩ := h
    simp only [List.mem_cons, List.not_mem_nil, or_false] at hc
    rcases hc with rfl | rfl | rfl | rfl
    · exact (Rd.sl h0).oneCell
    · rfl
    · rfl
    · rfl
  pos := by decide
  single h := by cases h
  frame := by
    intro A A' w w' cs t h hf
    obtain ⟨v0, rfl, h0⟩ := h
    exact ⟨v0, rfl, h0.frame hf⟩
  dc w cs t B := ∃ v0 B0, cs = [v0, .bool t.upper, .int .i64 t.before, .int .i64 t.domino] ∧ B = B0 ∧ Dc w v0 t.word B0
  dcf := by
    intro w w' cs t B h hf
    obtain ⟨v0, B0, rfl, rfl, h0⟩ := h
    exact ⟨v0, _, rfl, rfl, h0.frame (fun b hb => hf b (by simp [hb]))⟩
  dcr := by
    intro A w cs t B h hA
    obtain ⟨v0, B0, rfl, rfl, h0⟩ := h
    exact ⟨v0, rfl, h0.rd (fun b hb => hA b (by simp [hb]))⟩
  dlt := by
    intro w cs t B h b hb
    obtain ⟨v0, B0, rfl, rfl, h0⟩ := h
    exact h0.lt b hb
  flat := false
  flt h := by cases h
theorem Gl32Rest.rdmk {A : Nat → Prop} {w : World} {v0 : Value} {x0 : (List Int)} {v1 : Value} {x1 : Bool} {v2 : Value} {x2 : Int} {v3 : Value} {x3 : Int} (h0 : Rd A w v0 x0) (h1 : Rd A w v1 x1) (h2 : Rd A w v2 x2) (h3 : Rd A w v3 x3) : Rd A w (.agg #[v0, v1, v2, v3]) (⟨x0, x1, x2, x3⟩ : Gl32Rest) := by
  have e1 := Rd.bool h1
  subst e1
  have e2 := Rd.int h2
  subst e2
  have e3 := Rd.int h3
  subst e3
  exact ⟨[_, _, _, _], rfl, v0, rfl, h0⟩
theorem Gl32Rest.open {A : Nat → Prop} {w : World} {v : Value} {t : Gl32Rest} (h : Rd A w v t) : ∃ v0, v = .agg #[v0, .bool t.upper, .int .i64 t.before, .int .i64 t.domino] ∧ Rd A w v0 t.word := by
  obtain ⟨cs, e, h⟩ := h
  obtain ⟨v0, rfl, h0⟩ := h
  exact ⟨v0, e, h0⟩
theorem Gl32Rest.opens (t : Gl32Rest) : Opens t (fun x : Value => .agg #[x, .bool t.upper, .int .i64 t.before, .int .i64 t.domino]) (fun x => [.rd x t.word]) := by
  intro A B w v h
  obtain ⟨v0, e, h0⟩ := Gl32Rest.open h
  refine ⟨v0, e, ?_⟩
  intro f hf
  simp only [List.mem_cons, List.not_mem_nil, or_false] at hf
  rcases hf with rfl
  · exact ⟨⟨rfl, rfl⟩, h0⟩
theorem Gl32Rest.opT (t : Tk Gl32Rest) {y : Gl32Rest} (hy : t.x = y) : Opens t (fun x : Value => .agg #[x, .bool y.upper, .int .i64 y.before, .int .i64 y.domino]) (fun x => [.rd x (⟨y.word, t.B⟩ : Tk (List Int))]) := by
  subst hy
  intro A B w v h
  obtain ⟨cs, e, ⟨v0, B2, rfl, hB, h2⟩, hA⟩ := h
  subst hB
  obtain ⟨cs2, e2, h2⟩ := h2
  refine ⟨v0, e, ?_⟩
  intro f hf
  simp only [List.mem_cons, List.not_mem_nil, or_false] at hf
  rcases hf with rfl
  exact ⟨⟨rfl, rfl⟩, cs2, e2, h2, hA⟩
theorem Gl32Rest.at_word (t : Gl32Rest) : Part 0 t t.word := by
  intro A w cs h
  obtain ⟨v0, rfl, h0⟩ := h
  refine ⟨[v0], ?_, h0.cell rfl⟩
  intro j u hj
  match j, hj with
  | 0, hj => simpa using hj
theorem Gl32Rest.at_upper (t : Gl32Rest) : Part 1 t t.upper := by
  intro A w cs h
  obtain ⟨v0, rfl, h0⟩ := h
  refine ⟨[.bool t.upper], ?_, rfl⟩
  intro j u hj
  match j, hj with
  | 0, hj => simpa using hj
theorem Gl32Rest.at_before (t : Gl32Rest) : Part 2 t t.before := by
  intro A w cs h
  obtain ⟨v0, rfl, h0⟩ := h
  refine ⟨[.int .i64 t.before], ?_, rfl⟩
  intro j u hj
  match j, hj with
  | 0, hj => simpa using hj
theorem Gl32Rest.at_domino (t : Gl32Rest) : Part 3 t t.domino := by
  intro A w cs h
  obtain ⟨v0, rfl, h0⟩ := h
  refine ⟨[.int .i64 t.domino], ?_, rfl⟩
  intro j u hj
  match j, hj with
  | 0, hj => simpa using hj
theorem Gl32Rest.nb {x0 : (List Int)} {x1 : Bool} {x2 : Int} {x3 : Int} (h0 : Nb x0) : Nb (⟨x0, x1, x2, x3⟩ : Gl32Rest) := by
  intro A w cs h
  obtain ⟨v0, rfl, r0⟩ := h
  obtain ⟨c0, e0, q0⟩ := r0
  exact ⟨v0, [], rfl, rfl, ⟨c0, e0, h0 _ _ _ q0⟩⟩
theorem Gl32Rest.dw {w : World} {x0 : (List Int)} {x1 : Bool} {x2 : Int} {x3 : Int} {v0 : Value} {C0 C1 : List Nat} (h0 : Dw w v0 x0 C0 C1) : Dw w (.agg #[v0, .bool x1, .int .i64 x2, .int .i64 x3]) (⟨x0, x1, x2, x3⟩ : Gl32Rest) C0 C1 := by
  intro hn
  obtain ⟨B, a0, nd, mem, sub⟩ := h0 hn
  exact ⟨_, ⟨[v0, .bool x1, .int .i64 x2, .int .i64 x3], rfl, v0, B, rfl, rfl, a0⟩, nd, mem, sub⟩
theorem Gl32Rest.fc_word (y : Gl32Rest) : FC 0 y y.word (fun z => (⟨z, y.upper, y.before, y.domino⟩ : Gl32Rest)) := by
  intro w c Bi h
  obtain ⟨v0, B0, rfl, rfl, h0⟩ := h
  refine ⟨v0, _, rfl, h0.ds, fun hn => ?_, fun b hb => hb, fun w' z' hz hn hf => ?_⟩
  · exact hn
  · exact ⟨v0, _, rfl, rfl, hz.dc⟩
theorem Gl32Rest.sp_before (y : Gl32Rest) : SP 2 y (fun z => (⟨y.word, y.upper, z, y.domino⟩ : Gl32Rest)) := by
  intro A w c h
  obtain ⟨v0, rfl, h0⟩ := h
  exact ⟨by simp, fun k => ⟨v0, rfl, h0⟩⟩
theorem Gl32Rest.fs_before (y : Gl32Rest) : FSt 2 y (fun z => (⟨y.word, y.upper, z, y.domino⟩ : Gl32Rest)) := by
  intro w c Bi h
  obtain ⟨v0, B0, rfl, rfl, h0⟩ := h
  exact ⟨by simp, fun k => ⟨v0, _, rfl, rfl, h0⟩⟩
theorem Gl32Rest.sp_domino (y : Gl32Rest) : SP 3 y (fun z => (⟨y.word, y.upper, y.before, z⟩ : Gl32Rest)) := by
  intro A w c h
  obtain ⟨v0, rfl, h0⟩ := h
  exact ⟨by simp, fun k => ⟨v0, rfl, h0⟩⟩
theorem Gl32Rest.fs_domino (y : Gl32Rest) : FSt 3 y (fun z => (⟨y.word, y.upper, y.before, z⟩ : Gl32Rest)) := by
  intro w c Bi h
  obtain ⟨v0, B0, rfl, rfl, h0⟩ := h
  exact ⟨by simp, fun k => ⟨v0, _, rfl, rfl, h0⟩⟩
theorem Gl32Rest.zero {A : Nat → Prop} {w : World} : ∃ zc : List Value, (Value.agg #[.slice none 0 0, .bool false, .int .i64 0, .int .i64 0]).cells = zc.toArray ∧ Rep.rdc A w zc (⟨[], false, 0, 0⟩ : Gl32Rest) := ⟨[.slice none 0 0, .bool false, .int .i64 0, .int .i64 0], rfl, _, rfl, rdNil⟩

end Go.Fn
