/-
  The structures of the program, as plain Lean data, and how they are laid in memory. No condition.
-/
import Derived.Test.YthndfocnlkkcoaaPure
namespace Go.Fn
open Go Go.Tc

structure GRewrite where
  From : (List Int)
  To : (List Int)
instance : DecidableEq GRewrite := fun a b =>
  if h : a.From = b.From ∧ a.To = b.To then isTrue (by cases a; cases b; simp_all) else isFalse (by rintro rfl; simp at h)
instance : Rep GRewrite where
  sz := 2
  agg := true
  rdc A w cs t := ∃ v0 v1, cs = [v0, v1] ∧ Rd A w v0 t.From ∧ Rd A w v1 t.To
  len := by
    intro A w cs t h
    obtain ⟨v0, v1, rfl, h0, h1⟩ := h
    rfl
  one := by
    intro A w cs t h c hc
    obtain ⟨v0, v1, rfl, h0, h1⟩ := h
    simp only [List.mem_cons, List.not_mem_nil, or_false] at hc
    rcases hc with rfl | rfl
    · exact (Rd.sl h0).oneCell
    · exact (Rd.sl h1).oneCell
  pos := by decide
  single h := by cases h
  frame := by
    intro A A' w w' cs t h hf
    obtain ⟨v0, v1, rfl, h0, h1⟩ := h
    exact ⟨v0, v1, rfl, h0.frame hf, h1.frame hf⟩
  dc w cs t B := ∃ v0 v1 B0 B1, cs = [v0, v1] ∧ B = B0 ++ B1 ∧ Dc w v0 t.From B0 ∧ Dc w v1 t.To B1
  dcf := by
    intro w w' cs t B h hf
    obtain ⟨v0, v1, B0, B1, rfl, rfl, h0, h1⟩ := h
    exact ⟨v0, v1, _, _, rfl, rfl, h0.frame (fun b hb => hf b (by simp [hb])), h1.frame (fun b hb => hf b (by simp [hb]))⟩
  dcr := by
    intro A w cs t B h hA
    obtain ⟨v0, v1, B0, B1, rfl, rfl, h0, h1⟩ := h
    exact ⟨v0, v1, rfl, h0.rd (fun b hb => hA b (by simp [hb])), h1.rd (fun b hb => hA b (by simp [hb]))⟩
  dlt := by
    intro w cs t B h b hb
    obtain ⟨v0, v1, B0, B1, rfl, rfl, h0, h1⟩ := h
    simp only [List.append_assoc, List.mem_append] at hb
    rcases hb with hb | hb
    · exact h0.lt b hb
    · exact h1.lt b hb
  flat := false
  flt h := by cases h
theorem GRewrite.rdmk {A : Nat → Prop} {w : World} {v0 : Value} {x0 : (List Int)} {v1 : Value} {x1 : (List Int)} (h0 : Rd A w v0 x0) (h1 : Rd A w v1 x1) : Rd A w (.agg #[v0, v1]) (⟨x0, x1⟩ : GRewrite) := by
  exact ⟨[_, _], rfl, v0, v1, rfl, h0, h1⟩
theorem GRewrite.open {A : Nat → Prop} {w : World} {v : Value} {t : GRewrite} (h : Rd A w v t) : ∃ v0 v1, v = .agg #[v0, v1] ∧ Rd A w v0 t.From ∧ Rd A w v1 t.To := by
  obtain ⟨cs, e, h⟩ := h
  obtain ⟨v0, v1, rfl, h0, h1⟩ := h
  exact ⟨v0, v1, e, h0, h1⟩
theorem GRewrite.opens (t : GRewrite) : Opens t (fun x : Value × Value => .agg #[x.1, x.2]) (fun x => [.rd x.1 t.From, .rd x.2 t.To]) := by
  intro A B w v h
  obtain ⟨v0, v1, e, h0, h1⟩ := GRewrite.open h
  refine ⟨(v0, v1), e, ?_⟩
  intro f hf
  simp only [List.mem_cons, List.not_mem_nil, or_false] at hf
  rcases hf with rfl | rfl
  · exact ⟨⟨rfl, rfl⟩, h0⟩
  · exact ⟨⟨rfl, rfl⟩, h1⟩
theorem GRewrite.at_From (t : GRewrite) : Part 0 t t.From := by
  intro A w cs h
  obtain ⟨v0, v1, rfl, h0, h1⟩ := h
  refine ⟨[v0], ?_, h0.cell rfl⟩
  intro j u hj
  match j, hj with
  | 0, hj => simpa using hj
theorem GRewrite.at_To (t : GRewrite) : Part 1 t t.To := by
  intro A w cs h
  obtain ⟨v0, v1, rfl, h0, h1⟩ := h
  refine ⟨[v1], ?_, h1.cell rfl⟩
  intro j u hj
  match j, hj with
  | 0, hj => simpa using hj
theorem GRewrite.nb {x0 : (List Int)} {x1 : (List Int)} (h0 : Nb x0) (h1 : Nb x1) : Nb (⟨x0, x1⟩ : GRewrite) := by
  intro A w cs h
  obtain ⟨v0, v1, rfl, r0, r1⟩ := h
  obtain ⟨c0, e0, q0⟩ := r0
  obtain ⟨c1, e1, q1⟩ := r1
  exact ⟨v0, v1, [], [], rfl, rfl, ⟨c0, e0, h0 _ _ _ q0⟩, ⟨c1, e1, h1 _ _ _ q1⟩⟩
theorem GRewrite.dw {w : World} {x0 : (List Int)} {x1 : (List Int)} {v0 : Value} {v1 : Value} {C0 C1 C2 : List Nat} (h0 : Dw w v0 x0 C0 C1) (h1 : Dw w v1 x1 C1 C2) : Dw w (.agg #[v0, v1]) (⟨x0, x1⟩ : GRewrite) C0 C2 := by
  intro hn
  obtain ⟨B1, B2, a0, a1, nd, mem, sub⟩ := h0.two h1 hn
  exact ⟨_, ⟨[v0, v1], rfl, v0, v1, B1, B2, rfl, rfl, a0, a1⟩, nd, mem, sub⟩
theorem GRewrite.fc_From (y : GRewrite) : FC 0 y y.From (fun z => (⟨z, y.To⟩ : GRewrite)) := by
  intro w c Bi h
  obtain ⟨v0, v1, B0, B1, rfl, rfl, h0, h1⟩ := h
  refine ⟨v0, _, rfl, h0.ds, fun hn => ?_, fun b hb => by simp [hb], fun w' z' hz hn hf => ?_⟩
  · simp only [List.nodup_append] at hn
    first | exact hn.1 | exact hn.2.1 | exact hn.1.1 | exact hn.1.2.1
  · exact ⟨v0, v1, _, _, rfl, rfl, hz.dc, h1.frame (fun b hb => hf b (by simp [hb]) (fun hm => by simp only [List.nodup_append, List.mem_append] at hn; grind))⟩
theorem GRewrite.fc_To (y : GRewrite) : FC 1 y y.To (fun z => (⟨y.From, z⟩ : GRewrite)) := by
  intro w c Bi h
  obtain ⟨v0, v1, B0, B1, rfl, rfl, h0, h1⟩ := h
  refine ⟨v1, _, rfl, h1.ds, fun hn => ?_, fun b hb => by simp [hb], fun w' z' hz hn hf => ?_⟩
  · simp only [List.nodup_append] at hn
    first | exact hn.1 | exact hn.2.1 | exact hn.1.1 | exact hn.1.2.1
  · exact ⟨v0, v1, _, _, rfl, rfl, h0.frame (fun b hb => hf b (by simp [hb]) (fun hm => by simp only [List.nodup_append, List.mem_append] at hn; grind)), hz.dc⟩
theorem GRewrite.zero {A : Nat → Prop} {w : World} : ∃ zc : List Value, (Value.agg #[.slice none 0 0, .slice none 0 0]).cells = zc.toArray ∧ Rep.rdc A w zc (⟨[], []⟩ : GRewrite) := ⟨[.slice none 0 0, .slice none 0 0], rfl, _, _, rfl, rdNil, rdNil⟩

structure Gmove where
  rule : Int
  at_ : Int
  word : (List Int)
instance : DecidableEq Gmove := fun a b =>
  if h : a.rule = b.rule ∧ a.at_ = b.at_ ∧ a.word = b.word then isTrue (by cases a; cases b; simp_all) else isFalse (by rintro rfl; simp at h)
instance : Rep Gmove where
  sz := 3
  agg := true
  rdc A w cs t := ∃ v2, cs = [.int .i64 t.rule, .int .i64 t.at_, v2] ∧ Rd A w v2 t.word
  len := by
    intro A w cs t h
    obtain ⟨v2, rfl, h2⟩ := h
    rfl
  one := by
    intro A w cs t h c hc
    obtain ⟨v2, rfl, h2⟩ := h
    simp only [List.mem_cons, List.not_mem_nil, or_false] at hc
    rcases hc with rfl | rfl | rfl
    · rfl
    · rfl
    · exact (Rd.sl h2).oneCell
  pos := by decide
  single h := by cases h
  frame := by
    intro A A' w w' cs t h hf
    obtain ⟨v2, rfl, h2⟩ := h
    exact ⟨v2, rfl, h2.frame hf⟩
  dc w cs t B := ∃ v2 B2, cs = [.int .i64 t.rule, .int .i64 t.at_, v2] ∧ B = B2 ∧ Dc w v2 t.word B2
  dcf := by
    intro w w' cs t B h hf
    obtain ⟨v2, B2, rfl, rfl, h2⟩ := h
    exact ⟨v2, _, rfl, rfl, h2.frame (fun b hb => hf b (by simp [hb]))⟩
  dcr := by
    intro A w cs t B h hA
    obtain ⟨v2, B2, rfl, rfl, h2⟩ := h
    exact ⟨v2, rfl, h2.rd (fun b hb => hA b (by simp [hb]))⟩
  dlt := by
    intro w cs t B h b hb
    obtain ⟨v2, B2, rfl, rfl, h2⟩ := h
    exact h2.lt b hb
  flat := false
  flt h := by cases h
theorem Gmove.rdmk {A : Nat → Prop} {w : World} {v0 : Value} {x0 : Int} {v1 : Value} {x1 : Int} {v2 : Value} {x2 : (List Int)} (h0 : Rd A w v0 x0) (h1 : Rd A w v1 x1) (h2 : Rd A w v2 x2) : Rd A w (.agg #[v0, v1, v2]) (⟨x0, x1, x2⟩ : Gmove) := by
  have e0 := Rd.int h0
  subst e0
  have e1 := Rd.int h1
  subst e1
  exact ⟨[_, _, _], rfl, v2, rfl, h2⟩
theorem Gmove.open {A : Nat → Prop} {w : World} {v : Value} {t : Gmove} (h : Rd A w v t) : ∃ v2, v = .agg #[.int .i64 t.rule, .int .i64 t.at_, v2] ∧ Rd A w v2 t.word := by
  obtain ⟨cs, e, h⟩ := h
  obtain ⟨v2, rfl, h2⟩ := h
  exact ⟨v2, e, h2⟩
theorem Gmove.opens (t : Gmove) : Opens t (fun x : Value => .agg #[.int .i64 t.rule, .int .i64 t.at_, x]) (fun x => [.rd x t.word]) := by
  intro A B w v h
  obtain ⟨v2, e, h2⟩ := Gmove.open h
  refine ⟨v2, e, ?_⟩
  intro f hf
  simp only [List.mem_cons, List.not_mem_nil, or_false] at hf
  rcases hf with rfl
  · exact ⟨⟨rfl, rfl⟩, h2⟩
theorem Gmove.opT (t : Tk Gmove) {y : Gmove} (hy : t.x = y) : Opens t (fun x : Value => .agg #[.int .i64 y.rule, .int .i64 y.at_, x]) (fun x => [.rd x (⟨y.word, t.B⟩ : Tk (List Int))]) := by
  subst hy
  intro A B w v h
  obtain ⟨cs, e, ⟨v2, B2, rfl, hB, h2⟩, hA⟩ := h
  subst hB
  obtain ⟨cs2, e2, h2⟩ := h2
  refine ⟨v2, e, ?_⟩
  intro f hf
  simp only [List.mem_cons, List.not_mem_nil, or_false] at hf
  rcases hf with rfl
  exact ⟨⟨rfl, rfl⟩, cs2, e2, h2, hA⟩
theorem Gmove.at_rule (t : Gmove) : Part 0 t t.rule := by
  intro A w cs h
  obtain ⟨v2, rfl, h2⟩ := h
  refine ⟨[.int .i64 t.rule], ?_, rfl⟩
  intro j u hj
  match j, hj with
  | 0, hj => simpa using hj
theorem Gmove.at_at_ (t : Gmove) : Part 1 t t.at_ := by
  intro A w cs h
  obtain ⟨v2, rfl, h2⟩ := h
  refine ⟨[.int .i64 t.at_], ?_, rfl⟩
  intro j u hj
  match j, hj with
  | 0, hj => simpa using hj
theorem Gmove.at_word (t : Gmove) : Part 2 t t.word := by
  intro A w cs h
  obtain ⟨v2, rfl, h2⟩ := h
  refine ⟨[v2], ?_, h2.cell rfl⟩
  intro j u hj
  match j, hj with
  | 0, hj => simpa using hj
theorem Gmove.nb {x0 : Int} {x1 : Int} {x2 : (List Int)} (h2 : Nb x2) : Nb (⟨x0, x1, x2⟩ : Gmove) := by
  intro A w cs h
  obtain ⟨v2, rfl, r2⟩ := h
  obtain ⟨c2, e2, q2⟩ := r2
  exact ⟨v2, [], rfl, rfl, ⟨c2, e2, h2 _ _ _ q2⟩⟩
theorem Gmove.dw {w : World} {x0 : Int} {x1 : Int} {x2 : (List Int)} {v2 : Value} {C0 C1 : List Nat} (h2 : Dw w v2 x2 C0 C1) : Dw w (.agg #[.int .i64 x0, .int .i64 x1, v2]) (⟨x0, x1, x2⟩ : Gmove) C0 C1 := by
  intro hn
  obtain ⟨B, a0, nd, mem, sub⟩ := h2 hn
  exact ⟨_, ⟨[.int .i64 x0, .int .i64 x1, v2], rfl, v2, B, rfl, rfl, a0⟩, nd, mem, sub⟩
theorem Gmove.fs_rule (y : Gmove) : FSt 0 y (fun z => (⟨z, y.at_, y.word⟩ : Gmove)) := by
  intro w c Bi h
  obtain ⟨v2, B2, rfl, rfl, h2⟩ := h
  exact ⟨by simp, fun k => ⟨v2, _, rfl, rfl, h2⟩⟩
theorem Gmove.fs_at_ (y : Gmove) : FSt 1 y (fun z => (⟨y.rule, z, y.word⟩ : Gmove)) := by
  intro w c Bi h
  obtain ⟨v2, B2, rfl, rfl, h2⟩ := h
  exact ⟨by simp, fun k => ⟨v2, _, rfl, rfl, h2⟩⟩
theorem Gmove.fc_word (y : Gmove) : FC 2 y y.word (fun z => (⟨y.rule, y.at_, z⟩ : Gmove)) := by
  intro w c Bi h
  obtain ⟨v2, B2, rfl, rfl, h2⟩ := h
  refine ⟨v2, _, rfl, h2.ds, fun hn => ?_, fun b hb => hb, fun w' z' hz hn hf => ?_⟩
  · exact hn
  · exact ⟨v2, _, rfl, rfl, hz.dc⟩
theorem Gmove.zero {A : Nat → Prop} {w : World} : ∃ zc : List Value, (Value.agg #[.int .i64 0, .int .i64 0, .slice none 0 0]).cells = zc.toArray ∧ Rep.rdc A w zc (⟨0, 0, []⟩ : Gmove) := ⟨[.int .i64 0, .int .i64 0, .slice none 0 0], rfl, _, rfl, rdNil⟩

structure Gfound where
  move_rule : Int
  move_at_ : Int
  move_word : (List Int)
  parent : Int
instance : DecidableEq Gfound := fun a b =>
  if h : a.move_rule = b.move_rule ∧ a.move_at_ = b.move_at_ ∧ a.move_word = b.move_word ∧ a.parent = b.parent then isTrue (by cases a; cases b; simp_all) else isFalse (by rintro rfl; simp at h)
instance : Rep Gfound where
  sz := 4
  agg := true
  rdc A w cs t := ∃ v2, cs = [.int .i64 t.move_rule, .int .i64 t.move_at_, v2, .int .i64 t.parent] ∧ Rd A w v2 t.move_word
  len := by
    intro A w cs t h
    obtain ⟨v2, rfl, h2⟩ := h
    rfl
  one := by
    intro A w cs t h c hc
    obtain ⟨v2, rfl, h2⟩ := h
    simp only [List.mem_cons, List.not_mem_nil, or_false] at hc
    rcases hc with rfl | rfl | rfl | rfl
    · rfl
    · rfl
    · exact (Rd.sl h2).oneCell
    · rfl
  pos := by decide
  single h := by cases h
  frame := by
    intro A A' w w' cs t h hf
    obtain ⟨v2, rfl, h2⟩ := h
    exact ⟨v2, rfl, h2.frame hf⟩
  dc w cs t B := ∃ v2 B2, cs = [.int .i64 t.move_rule, .int .i64 t.move_at_, v2, .int .i64 t.parent] ∧ B = B2 ∧ Dc w v2 t.move_word B2
  dcf := by
    intro w w' cs t B h hf
    obtain ⟨v2, B2, rfl, rfl, h2⟩ := h
    exact ⟨v2, _, rfl, rfl, h2.frame (fun b hb => hf b (by simp [hb]))⟩
  dcr := by
    intro A w cs t B h hA
    obtain ⟨v2, B2, rfl, rfl, h2⟩ := h
    exact ⟨v2, rfl, h2.rd (fun b hb => hA b (by simp [hb]))⟩
  dlt := by
    intro w cs t B h b hb
    obtain ⟨v2, B2, rfl, rfl, h2⟩ := h
    exact h2.lt b hb
  flat := false
  flt h := by cases h
theorem Gfound.rdmk {A : Nat → Prop} {w : World} {v0 : Value} {x0 : Int} {v1 : Value} {x1 : Int} {v2 : Value} {x2 : (List Int)} {v3 : Value} {x3 : Int} (h0 : Rd A w v0 x0) (h1 : Rd A w v1 x1) (h2 : Rd A w v2 x2) (h3 : Rd A w v3 x3) : Rd A w (.agg #[v0, v1, v2, v3]) (⟨x0, x1, x2, x3⟩ : Gfound) := by
  have e0 := Rd.int h0
  subst e0
  have e1 := Rd.int h1
  subst e1
  have e3 := Rd.int h3
  subst e3
  exact ⟨[_, _, _, _], rfl, v2, rfl, h2⟩
theorem Gfound.open {A : Nat → Prop} {w : World} {v : Value} {t : Gfound} (h : Rd A w v t) : ∃ v2, v = .agg #[.int .i64 t.move_rule, .int .i64 t.move_at_, v2, .int .i64 t.parent] ∧ Rd A w v2 t.move_word := by
  obtain ⟨cs, e, h⟩ := h
  obtain ⟨v2, rfl, h2⟩ := h
  exact ⟨v2, e, h2⟩
theorem Gfound.opens (t : Gfound) : Opens t (fun x : Value => .agg #[.int .i64 t.move_rule, .int .i64 t.move_at_, x, .int .i64 t.parent]) (fun x => [.rd x t.move_word]) := by
  intro A B w v h
  obtain ⟨v2, e, h2⟩ := Gfound.open h
  refine ⟨v2, e, ?_⟩
  intro f hf
  simp only [List.mem_cons, List.not_mem_nil, or_false] at hf
  rcases hf with rfl
  · exact ⟨⟨rfl, rfl⟩, h2⟩
theorem Gfound.opT (t : Tk Gfound) {y : Gfound} (hy : t.x = y) : Opens t (fun x : Value => .agg #[.int .i64 y.move_rule, .int .i64 y.move_at_, x, .int .i64 y.parent]) (fun x => [.rd x (⟨y.move_word, t.B⟩ : Tk (List Int))]) := by
  subst hy
  intro A B w v h
  obtain ⟨cs, e, ⟨v2, B2, rfl, hB, h2⟩, hA⟩ := h
  subst hB
  obtain ⟨cs2, e2, h2⟩ := h2
  refine ⟨v2, e, ?_⟩
  intro f hf
  simp only [List.mem_cons, List.not_mem_nil, or_false] at hf
  rcases hf with rfl
  exact ⟨⟨rfl, rfl⟩, cs2, e2, h2, hA⟩
theorem Gfound.at_move_rule (t : Gfound) : Part 0 t t.move_rule := by
  intro A w cs h
  obtain ⟨v2, rfl, h2⟩ := h
  refine ⟨[.int .i64 t.move_rule], ?_, rfl⟩
  intro j u hj
  match j, hj with
  | 0, hj => simpa using hj
theorem Gfound.at_move_at_ (t : Gfound) : Part 1 t t.move_at_ := by
  intro A w cs h
  obtain ⟨v2, rfl, h2⟩ := h
  refine ⟨[.int .i64 t.move_at_], ?_, rfl⟩
  intro j u hj
  match j, hj with
  | 0, hj => simpa using hj
theorem Gfound.at_move_word (t : Gfound) : Part 2 t t.move_word := by
  intro A w cs h
  obtain ⟨v2, rfl, h2⟩ := h
  refine ⟨[v2], ?_, h2.cell rfl⟩
  intro j u hj
  match j, hj with
  | 0, hj => simpa using hj
theorem Gfound.at_parent (t : Gfound) : Part 3 t t.parent := by
  intro A w cs h
  obtain ⟨v2, rfl, h2⟩ := h
  refine ⟨[.int .i64 t.parent], ?_, rfl⟩
  intro j u hj
  match j, hj with
  | 0, hj => simpa using hj
theorem Gfound.at_move (t : Gfound) : Part 0 t (⟨t.move_rule, t.move_at_, t.move_word⟩ : Gmove) := by
  intro A w cs h
  obtain ⟨v2, rfl, h2⟩ := h
  refine ⟨[.int .i64 t.move_rule, .int .i64 t.move_at_, v2], ?_, ⟨v2, rfl, h2⟩⟩
  intro j u hj
  match j, hj with
  | 0, hj => simpa using hj
  | 1, hj => simpa using hj
  | 2, hj => simpa using hj
theorem Gfound.nb {x0 : Int} {x1 : Int} {x2 : (List Int)} {x3 : Int} (h2 : Nb x2) : Nb (⟨x0, x1, x2, x3⟩ : Gfound) := by
  intro A w cs h
  obtain ⟨v2, rfl, r2⟩ := h
  obtain ⟨c2, e2, q2⟩ := r2
  exact ⟨v2, [], rfl, rfl, ⟨c2, e2, h2 _ _ _ q2⟩⟩
theorem Gfound.dw {w : World} {x0 : Int} {x1 : Int} {x2 : (List Int)} {x3 : Int} {v2 : Value} {C0 C1 : List Nat} (h2 : Dw w v2 x2 C0 C1) : Dw w (.agg #[.int .i64 x0, .int .i64 x1, v2, .int .i64 x3]) (⟨x0, x1, x2, x3⟩ : Gfound) C0 C1 := by
  intro hn
  obtain ⟨B, a0, nd, mem, sub⟩ := h2 hn
  exact ⟨_, ⟨[.int .i64 x0, .int .i64 x1, v2, .int .i64 x3], rfl, v2, B, rfl, rfl, a0⟩, nd, mem, sub⟩
theorem Gfound.fs_move_rule (y : Gfound) : FSt 0 y (fun z => (⟨z, y.move_at_, y.move_word, y.parent⟩ : Gfound)) := by
  intro w c Bi h
  obtain ⟨v2, B2, rfl, rfl, h2⟩ := h
  exact ⟨by simp, fun k => ⟨v2, _, rfl, rfl, h2⟩⟩
theorem Gfound.fs_move_at_ (y : Gfound) : FSt 1 y (fun z => (⟨y.move_rule, z, y.move_word, y.parent⟩ : Gfound)) := by
  intro w c Bi h
  obtain ⟨v2, B2, rfl, rfl, h2⟩ := h
  exact ⟨by simp, fun k => ⟨v2, _, rfl, rfl, h2⟩⟩
theorem Gfound.fc_move_word (y : Gfound) : FC 2 y y.move_word (fun z => (⟨y.move_rule, y.move_at_, z, y.parent⟩ : Gfound)) := by
  intro w c Bi h
  obtain ⟨v2, B2, rfl, rfl, h2⟩ := h
  refine ⟨v2, _, rfl, h2.ds, fun hn => ?_, fun b hb => hb, fun w' z' hz hn hf => ?_⟩
  · exact hn
  · exact ⟨v2, _, rfl, rfl, hz.dc⟩
theorem Gfound.fs_parent (y : Gfound) : FSt 3 y (fun z => (⟨y.move_rule, y.move_at_, y.move_word, z⟩ : Gfound)) := by
  intro w c Bi h
  obtain ⟨v2, B2, rfl, rfl, h2⟩ := h
  exact ⟨by simp, fun k => ⟨v2, _, rfl, rfl, h2⟩⟩
theorem Gfound.zero {A : Nat → Prop} {w : World} : ∃ zc : List Value, (Value.agg #[.int .i64 0, .int .i64 0, .slice none 0 0, .int .i64 0]).cells = zc.toArray ∧ Rep.rdc A w zc (⟨0, 0, [], 0⟩ : Gfound) := ⟨[.int .i64 0, .int .i64 0, .slice none 0 0, .int .i64 0], rfl, _, rfl, rdNil⟩

-- Gsearch: struct Gsearch

structure Gl10Search where
  words : (List (List Int))
  before : (List Int)
  steps : (List (List Int))
  complete : Bool
instance : Rep Gl10Search where
  sz := 4
  agg := true
  rdc A w cs t := ∃ v0 v1 v2, cs = [v0, v1, v2, .bool t.complete] ∧ Rd A w v0 t.words ∧ Rd A w v1 t.before ∧ Rd A w v2 t.steps
  len := by
    intro A w cs t h
    obtain ⟨v0, v1, v2, rfl, h0, h1, h2⟩ := h
    rfl
  one := by
    intro A w cs t h c hc
    obtain ⟨v0, v1, v2, rfl, h0, h1, h2⟩ := h
    simp only [List.mem_cons, List.not_mem_nil, or_false] at hc
    rcases hc with rfl | rfl | rfl | rfl
    · exact (Rd.sl h0).oneCell
    · exact (Rd.sl h1).oneCell
    · exact (Rd.sl h2).oneCell
    · rfl
  pos := by decide
  single h := by cases h
  frame := by
    intro A A' w w' cs t h hf
    obtain ⟨v0, v1, v2, rfl, h0, h1, h2⟩ := h
    exact ⟨v0, v1, v2, rfl, h0.frame hf, h1.frame hf, h2.frame hf⟩
  dc w cs t B := ∃ v0 v1 v2 B0 B1 B2, cs = [v0, v1, v2, .bool t.complete] ∧ B = B0 ++ B1 ++ B2 ∧ Dc w v0 t.words B0 ∧ Dc w v1 t.before B1 ∧ Dc w v2 t.steps B2
  dcf := by
    intro w w' cs t B h hf
    obtain ⟨v0, v1, v2, B0, B1, B2, rfl, rfl, h0, h1, h2⟩ := h
    exact ⟨v0, v1, v2, _, _, _, rfl, rfl, h0.frame (fun b hb => hf b (by simp [hb])), h1.frame (fun b hb => hf b (by simp [hb])), h2.frame (fun b hb => hf b (by simp [hb]))⟩
  dcr := by
    intro A w cs t B h hA
    obtain ⟨v0, v1, v2, B0, B1, B2, rfl, rfl, h0, h1, h2⟩ := h
    exact ⟨v0, v1, v2, rfl, h0.rd (fun b hb => hA b (by simp [hb])), h1.rd (fun b hb => hA b (by simp [hb])), h2.rd (fun b hb => hA b (by simp [hb]))⟩
  dlt := by
    intro w cs t B h b hb
    obtain ⟨v0, v1, v2, B0, B1, B2, rfl, rfl, h0, h1, h2⟩ := h
    simp only [List.append_assoc, List.mem_append] at hb
    rcases hb with hb | hb | hb
    · exact h0.lt b hb
    · exact h1.lt b hb
    · exact h2.lt b hb
  flat := false
  flt h := by cases h
theorem Gl10Search.rdmk {A : Nat → Prop} {w : World} {v0 : Value} {x0 : (List (List Int))} {v1 : Value} {x1 : (List Int)} {v2 : Value} {x2 : (List (List Int))} {v3 : Value} {x3 : Bool} (h0 : Rd A w v0 x0) (h1 : Rd A w v1 x1) (h2 : Rd A w v2 x2) (h3 : Rd A w v3 x3) : Rd A w (.agg #[v0, v1, v2, v3]) (⟨x0, x1, x2, x3⟩ : Gl10Search) := by
  have e3 := Rd.bool h3
  subst e3
  exact ⟨[_, _, _, _], rfl, v0, v1, v2, rfl, h0, h1, h2⟩
theorem Gl10Search.open {A : Nat → Prop} {w : World} {v : Value} {t : Gl10Search} (h : Rd A w v t) : ∃ v0 v1 v2, v = .agg #[v0, v1, v2, .bool t.complete] ∧ Rd A w v0 t.words ∧ Rd A w v1 t.before ∧ Rd A w v2 t.steps := by
  obtain ⟨cs, e, h⟩ := h
  obtain ⟨v0, v1, v2, rfl, h0, h1, h2⟩ := h
  exact ⟨v0, v1, v2, e, h0, h1, h2⟩
theorem Gl10Search.opens (t : Gl10Search) : Opens t (fun x : Value × Value × Value => .agg #[x.1, x.2.1, x.2.2, .bool t.complete]) (fun x => [.rd x.1 t.words, .rd x.2.1 t.before, .rd x.2.2 t.steps]) := by
  intro A B w v h
  obtain ⟨v0, v1, v2, e, h0, h1, h2⟩ := Gl10Search.open h
  refine ⟨(v0, v1, v2), e, ?_⟩
  intro f hf
  simp only [List.mem_cons, List.not_mem_nil, or_false] at hf
  rcases hf with rfl | rfl | rfl
  · exact ⟨⟨rfl, rfl⟩, h0⟩
  · exact ⟨⟨rfl, rfl⟩, h1⟩
  · exact ⟨⟨rfl, rfl⟩, h2⟩
theorem Gl10Search.at_words (t : Gl10Search) : Part 0 t t.words := by
  intro A w cs h
  obtain ⟨v0, v1, v2, rfl, h0, h1, h2⟩ := h
  refine ⟨[v0], ?_, h0.cell rfl⟩
  intro j u hj
  match j, hj with
  | 0, hj => simpa using hj
theorem Gl10Search.at_before (t : Gl10Search) : Part 1 t t.before := by
  intro A w cs h
  obtain ⟨v0, v1, v2, rfl, h0, h1, h2⟩ := h
  refine ⟨[v1], ?_, h1.cell rfl⟩
  intro j u hj
  match j, hj with
  | 0, hj => simpa using hj
theorem Gl10Search.at_steps (t : Gl10Search) : Part 2 t t.steps := by
  intro A w cs h
  obtain ⟨v0, v1, v2, rfl, h0, h1, h2⟩ := h
  refine ⟨[v2], ?_, h2.cell rfl⟩
  intro j u hj
  match j, hj with
  | 0, hj => simpa using hj
theorem Gl10Search.at_complete (t : Gl10Search) : Part 3 t t.complete := by
  intro A w cs h
  obtain ⟨v0, v1, v2, rfl, h0, h1, h2⟩ := h
  refine ⟨[.bool t.complete], ?_, rfl⟩
  intro j u hj
  match j, hj with
  | 0, hj => simpa using hj
theorem Gl10Search.nb {x0 : (List (List Int))} {x1 : (List Int)} {x2 : (List (List Int))} {x3 : Bool} (h0 : Nb x0) (h1 : Nb x1) (h2 : Nb x2) : Nb (⟨x0, x1, x2, x3⟩ : Gl10Search) := by
  intro A w cs h
  obtain ⟨v0, v1, v2, rfl, r0, r1, r2⟩ := h
  obtain ⟨c0, e0, q0⟩ := r0
  obtain ⟨c1, e1, q1⟩ := r1
  obtain ⟨c2, e2, q2⟩ := r2
  exact ⟨v0, v1, v2, [], [], [], rfl, rfl, ⟨c0, e0, h0 _ _ _ q0⟩, ⟨c1, e1, h1 _ _ _ q1⟩, ⟨c2, e2, h2 _ _ _ q2⟩⟩
theorem Gl10Search.dw {w : World} {x0 : (List (List Int))} {x1 : (List Int)} {x2 : (List (List Int))} {x3 : Bool} {v0 : Value} {v1 : Value} {v2 : Value} {C0 C1 C2 C3 : List Nat} (h0 : Dw w v0 x0 C0 C1) (h1 : Dw w v1 x1 C1 C2) (h2 : Dw w v2 x2 C2 C3) : Dw w (.agg #[v0, v1, v2, .bool x3]) (⟨x0, x1, x2, x3⟩ : Gl10Search) C0 C3 := by
  intro hn
  obtain ⟨B1, B2, B3, a0, a1, a2, nd, mem, sub⟩ := h0.three h1 h2 hn
  exact ⟨_, ⟨[v0, v1, v2, .bool x3], rfl, v0, v1, v2, B1, B2, B3, rfl, rfl, a0, a1, a2⟩, nd, mem, sub⟩
theorem Gl10Search.fc_words (y : Gl10Search) : FC 0 y y.words (fun z => (⟨z, y.before, y.steps, y.complete⟩ : Gl10Search)) := by
  intro w c Bi h
  obtain ⟨v0, v1, v2, B0, B1, B2, rfl, rfl, h0, h1, h2⟩ := h
  refine ⟨v0, _, rfl, h0.ds, fun hn => ?_, fun b hb => by simp [hb], fun w' z' hz hn hf => ?_⟩
  · simp only [List.nodup_append] at hn
    first | exact hn.1 | exact hn.2.1 | exact hn.1.1 | exact hn.1.2.1
  · exact ⟨v0, v1, v2, _, _, _, rfl, rfl, hz.dc, h1.frame (fun b hb => hf b (by simp [hb]) (fun hm => by simp only [List.nodup_append, List.mem_append] at hn; grind)), h2.frame (fun b hb => hf b (by simp [hb]) (fun hm => by simp only [List.nodup_append, List.mem_append] at hn; grind))⟩
theorem Gl10Search.fc_before (y : Gl10Search) : FC 1 y y.before (fun z => (⟨y.words, z, y.steps, y.complete⟩ : Gl10Search)) := by
  intro w c Bi h
  obtain ⟨v0, v1, v2, B0, B1, B2, rfl, rfl, h0, h1, h2⟩ := h
  refine ⟨v1, _, rfl, h1.ds, fun hn => ?_, fun b hb => by simp [hb], fun w' z' hz hn hf => ?_⟩
  · simp only [List.nodup_append] at hn
    first | exact hn.1 | exact hn.2.1 | exact hn.1.1 | exact hn.1.2.1
  · exact ⟨v0, v1, v2, _, _, _, rfl, rfl, h0.frame (fun b hb => hf b (by simp [hb]) (fun hm => by simp only [List.nodup_append, List.mem_append] at hn; grind)), hz.dc, h2.frame (fun b hb => hf b (by simp [hb]) (fun hm => by simp only [List.nodup_append, List.mem_append] at hn; grind))⟩
theorem Gl10Search.fc_steps (y : Gl10Search) : FC 2 y y.steps (fun z => (⟨y.words, y.before, z, y.complete⟩ : Gl10Search)) := by
  intro w c Bi h
  obtain ⟨v0, v1, v2, B0, B1, B2, rfl, rfl, h0, h1, h2⟩ := h
  refine ⟨v2, _, rfl, h2.ds, fun hn => ?_, fun b hb => by simp [hb], fun w' z' hz hn hf => ?_⟩
  · simp only [List.nodup_append] at hn
    first | exact hn.1 | exact hn.2.1 | exact hn.1.1 | exact hn.1.2.1
  · exact ⟨v0, v1, v2, _, _, _, rfl, rfl, h0.frame (fun b hb => hf b (by simp [hb]) (fun hm => by simp only [List.nodup_append, List.mem_append] at hn; grind)), h1.frame (fun b hb => hf b (by simp [hb]) (fun hm => by simp only [List.nodup_append, List.mem_append] at hn; grind)), hz.dc⟩
theorem Gl10Search.zero {A : Nat → Prop} {w : World} : ∃ zc : List Value, (Value.agg #[.slice none 0 0, .slice none 0 0, .slice none 0 0, .bool false]).cells = zc.toArray ∧ Rep.rdc A w zc (⟨[], [], [], false⟩ : Gl10Search) := ⟨[.slice none 0 0, .slice none 0 0, .slice none 0 0, .bool false], rfl, _, _, _, rfl, rdNil, rdNil, rdNil⟩

end Go.Fn
