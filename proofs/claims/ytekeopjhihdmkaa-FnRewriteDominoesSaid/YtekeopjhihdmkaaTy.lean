/-
  The structures of the program, as plain Lean data, and how they are laid in memory. No condition.
-/
import Derived.Test.YtekeopjhihdmkaaPure
namespace Go.Fn
open Go Go.Tc

structure GRewrite where
  From : (List Int)
  To : (List Int)
instance : DecidableEq GRewrite := fun a b =>
  if h : a.From = b.From ∧ a.To = b.To then isTrue (by cases a; cases b; simp_all) else isFalse (by rintro rfl; simp at h)
instance : Rep GRewrite where
  sz := 2
  agg := true
  rdc A w cs t := ∃ v0 v1, cs = [v0, v1] ∧ Rd A w v0 t.From ∧ Rd A w v1 t.To
  len := by
    intro A w cs t h
    obtain ⟨v0, v1, rfl, h0, h1⟩ := h
    rfl
  one := by
    intro A w cs t h c hc
    obtain ⟨v0, v1, rfl, h0, h1⟩ := h
    simp only [List.mem_cons, List.not_mem_nil, or_false] at hc
    rcases hc with rfl | rfl
    · exact (Rd.sl h0).oneCell
    · exact (Rd.sl h1).oneCell
  pos := by decide
  single h := by cases h
  frame := by
    intro A A' w w' cs t h hf
    obtain ⟨v0, v1, rfl, h0, h1⟩ := h
    exact ⟨v0, v1, rfl, h0.frame hf, h1.frame hf⟩
  dc w cs t B := ∃ v0 v1 B0 B1, cs = [v0, v1] ∧ B = B0 ++ B1 ∧ Dc w v0 t.From B0 ∧ Dc w v1 t.To B1
  dcf := by
    intro w w' cs t B h hf
    obtain ⟨v0, v1, B0, B1, rfl, rfl, h0, h1⟩ := h
    exact ⟨v0, v1, _, _, rfl, rfl, h0.frame (fun b hb => hf b (by simp [hb])), h1.frame (fun b hb => hf b (by simp [hb]))⟩
  dcr := by
    intro A w cs t B h hA
    obtain ⟨v0, v1, B0, B1, rfl, rfl, h0, h1⟩ := h
    exact ⟨v0, v1, rfl, h0.rd (fun b hb => hA b (by simp [hb])), h1.rd (fun b hb => hA b (by simp [hb]))⟩
  dlt := by
    intro w cs t B h b hb
    obtain ⟨v0, v1, B0, B1, rfl, rfl, h0, h1⟩ := h
    simp only [List.append_assoc, List.mem_append] at hb
    rcases hb with hb | hb
    · exact h0.lt b hb
    · exact h1.lt b hb
  flat := false
  flt h := by cases h
theorem GRewrite.rdmk {A : Nat → Prop} {w : World} {v0 : Value} {x0 : (List Int)} {v1 : Value} {x1 : (List Int)} (h0 : Rd A w v0 x0) (h1 : Rd A w v1 x1) : Rd A w (.agg #[v0, v1]) (⟨x0, x1⟩ : GRewrite) := by
  exact ⟨[_, _], rfl, v0, v1, rfl, h0, h1⟩
theorem GRewrite.open {A : Nat → Prop} {w : World} {v : Value} {t : GRewrite} (h : Rd A w v t) : ∃ v0 v1, v = .agg #[v0, v1] ∧ Rd A w v0 t.From ∧ Rd A w v1 t.To := by
  obtain ⟨cs, e, h⟩ := h
  obtain ⟨v0, v1, rfl, h0, h1⟩ := h
  exact ⟨v0, v1, e, h0, h1⟩
theorem GRewrite.opens (t : GRewrite) : Opens t (fun x : Value × Value => .agg #[x.1, x.2]) (fun x => [.rd x.1 t.From, .rd x.2 t.To]) := by
  intro A B w v h
  obtain ⟨v0, v1, e, h0, h1⟩ := GRewrite.open h
  refine ⟨(v0, v1), e, ?_⟩
  intro f hf
  simp only [List.mem_cons, List.not_mem_nil, or_false] at hf
  rcases hf with rfl | rfl
  · exact ⟨⟨rfl, rfl⟩, h0⟩
  · exact ⟨⟨rfl, rfl⟩, h1⟩
theorem GRewrite.at_From (t : GRewrite) : Part 0 t t.From := by
  intro A w cs h
  obtain ⟨v0, v1, rfl, h0, h1⟩ := h
  refine ⟨[v0], ?_, h0.cell rfl⟩
  intro j u hj
  match j, hj with
  | 0, hj => simpa using hj
theorem GRewrite.at_To (t : GRewrite) : Part 1 t t.To := by
  intro A w cs h
  obtain ⟨v0, v1, rfl, h0, h1⟩ := h
  refine ⟨[v1], ?_, h1.cell rfl⟩
  intro j u hj
  match j, hj with
  | 0, hj => simpa using hj
theorem GRewrite.nb {x0 : (List Int)} {x1 : (List Int)} (h0 : Nb x0) (h1 : Nb x1) : Nb (⟨x0, x1⟩ : GRewrite) := by
  intro A w cs h
  obtain ⟨v0, v1, rfl, r0, r1⟩ := h
  obtain ⟨c0, e0, q0⟩ := r0
  obtain ⟨c1, e1, q1⟩ := r1
  exact ⟨v0, v1, [], [], rfl, rfl, ⟨c0, e0, h0 _ _ _ q0⟩, ⟨c1, e1, h1 _ _ _ q1⟩⟩
theorem GRewrite.dw {w : World} {x0 : (List Int)} {x1 : (List Int)} {v0 : Value} {v1 : Value} {C0 C1 C2 : List Nat} (h0 : Dw w v0 x0 C0 C1) (h1 : Dw w v1 x1 C1 C2) : Dw w (.agg #[v0, v1]) (⟨x0, x1⟩ : GRewrite) C0 C2 := by
  intro hn
  obtain ⟨B1, B2, a0, a1, nd, mem, sub⟩ := h0.two h1 hn
  exact ⟨_, ⟨[v0, v1], rfl, v0, v1, B1, B2, rfl, rfl, a0, a1⟩, nd, mem, sub⟩
theorem GRewrite.fc_From (y : GRewrite) : FC 0 y y.From (fun z => (⟨z, y.To⟩ : GRewrite)) := by
  intro w c Bi h
  obtain ⟨v0, v1, B0, B1, rfl, rfl, h0, h1⟩ := h
  refine ⟨v0, _, rfl, h0.ds, fun hn => ?_, fun b hb => by simp [hb], fun w' z' hz hn hf => ?_⟩
  · simp only [List.nodup_append] at hn
    first | exact hn.1 | exact hn.2.1 | exact hn.1.1 | exact hn.1.2.1
  · exact ⟨v0, v1, _, _, rfl, rfl, hz.dc, h1.frame (fun b hb => hf b (by simp [hb]) (fun hm => by simp only [List.nodup_append, List.mem_append] at hn; grind))⟩
theorem GRewrite.fc_To (y : GRewrite) : FC 1 y y.To (fun z => (⟨y.From, z⟩ : GRewrite)) := by
  intro w c Bi h
  obtain ⟨v0, v1, B0, B1, rfl, rfl, h0, h1⟩ := h
  refine ⟨v1, _, rfl, h1.ds, fun hn => ?_, fun b hb => by simp [hb], fun w' z' hz hn hf => ?_⟩
  · simp only [List.nodup_append] at hn
    first | exact hn.1 | exact hn.2.1 | exact hn.1.1 | exact hn.1.2.1
  · exact ⟨v0, v1, _, _, rfl, rfl, h0.frame (fun b hb => hf b (by simp [hb]) (fun hm => by simp only [List.nodup_append, List.mem_append] at hn; grind)), hz.dc⟩
theorem GRewrite.zero {A : Nat → Prop} {w : World} : ∃ zc : List Value, (Value.agg #[.slice none 0 0, .slice none 0 0]).cells = zc.toArray ∧ Rep.rdc A w zc (⟨[], []⟩ : GRewrite) := ⟨[.slice none 0 0, .slice none 0 0], rfl, _, _, rfl, rdNil, rdNil⟩

structure GDomino where
  Top : (List Int)
  Bottom : (List Int)
instance : DecidableEq GDomino := fun a b =>
  if h : a.Top = b.Top ∧ a.Bottom = b.Bottom then isTrue (by cases a; cases b; simp_all) else isFalse (by rintro rfl; simp at h)
instance : Rep GDomino where
  sz := 2
  agg := true
  rdc A w cs t := ∃ v0 v1, cs = [v0, v1] ∧ Rd A w v0 t.Top ∧ Rd A w v1 t.Bottom
  len := by
    intro A w cs t h
    obtain ⟨v0, v1, rfl, h0, h1⟩ := h
    rfl
  one := by
    intro A w cs t h c hc
    obtain ⟨v0, v1, rfl, h0, h1⟩ := h
    simp only [List.mem_cons, List.not_mem_nil, or_false] at hc
    rcases hc with rfl | rfl
    · exact (Rd.sl h0).oneCell
    · exact (Rd.sl h1).oneCell
  pos := by decide
  single h := by cases h
  frame := by
    intro A A' w w' cs t h hf
    obtain ⟨v0, v1, rfl, h0, h1⟩ := h
    exact ⟨v0, v1, rfl, h0.frame hf, h1.frame hf⟩
  dc w cs t B := ∃ v0 v1 B0 B1, cs = [v0, v1] ∧ B = B0 ++ B1 ∧ Dc w v0 t.Top B0 ∧ Dc w v1 t.Bottom B1
  dcf := by
    intro w w' cs t B h hf
    obtain ⟨v0, v1, B0, B1, rfl, rfl, h0, h1⟩ := h
    exact ⟨v0, v1, _, _, rfl, rfl, h0.frame (fun b hb => hf b (by simp [hb])), h1.frame (fun b hb => hf b (by simp [hb]))⟩
  dcr := by
    intro A w cs t B h hA
    obtain ⟨v0, v1, B0, B1, rfl, rfl, h0, h1⟩ := h
    exact ⟨v0, v1, rfl, h0.rd (fun b hb => hA b (by simp [hb])), h1.rd (fun b hb => hA b (by simp [hb]))⟩
  dlt := by
    intro w cs t B h b hb
    obtain ⟨v0, v1, B0, B1, rfl, rfl, h0, h1⟩ := h
    simp only [List.append_assoc, List.mem_append] at hb
    rcases hb with hb | hb
    · exact h0.lt b hb
    · exact h1.lt b hb
  flat := false
  flt h := by cases h
theorem GDomino.rdmk {A : Nat → Prop} {w : World} {v0 : Value} {x0 : (List Int)} {v1 : Value} {x1 : (List Int)} (h0 : Rd A w v0 x0) (h1 : Rd A w v1 x1) : Rd A w (.agg #[v0, v1]) (⟨x0, x1⟩ : GDomino) := by
  exact ⟨[_, _], rfl, v0, v1, rfl, h0, h1⟩
theorem GDomino.open {A : Nat → Prop} {w : World} {v : Value} {t : GDomino} (h : Rd A w v t) : ∃ v0 v1, v = .agg #[v0, v1] ∧ Rd A w v0 t.Top ∧ Rd A w v1 t.Bottom := by
  obtain ⟨cs, e, h⟩ := h
  obtain ⟨v0, v1, rfl, h0, h1⟩ := h
  exact ⟨v0, v1, e, h0, h1⟩
theorem GDomino.opens (t : GDomino) : Opens t (fun x : Value × Value => .agg #[x.1, x.2]) (fun x => [.rd x.1 t.Top, .rd x.2 t.Bottom]) := by
  intro A B w v h
  obtain ⟨v0, v1, e, h0, h1⟩ := GDomino.open h
  refine ⟨(v0, v1), e, ?_⟩
  intro f hf
  simp only [List.mem_cons, List.not_mem_nil, or_false] at hf
  rcases hf with rfl | rfl
  · exact ⟨⟨rfl, rfl⟩, h0⟩
  · exact ⟨⟨rfl, rfl⟩, h1⟩
theorem GDomino.at_Top (t : GDomino) : Part 0 t t.Top := by
  intro A w cs h
  obtain ⟨v0, v1, rfl, h0, h1⟩ := h
  refine ⟨[v0], ?_, h0.cell rfl⟩
  intro j u hj
  match j, hj with
  | 0, hj => simpa using hj
theorem GDomino.at_Bottom (t : GDomino) : Part 1 t t.Bottom := by
  intro A w cs h
  obtain ⟨v0, v1, rfl, h0, h1⟩ := h
  refine ⟨[v1], ?_, h1.cell rfl⟩
  intro j u hj
  match j, hj with
  | 0, hj => simpa using hj
theorem GDomino.nb {x0 : (List Int)} {x1 : (List Int)} (h0 : Nb x0) (h1 : Nb x1) : Nb (⟨x0, x1⟩ : GDomino) := by
  intro A w cs h
  obtain ⟨v0, v1, rfl, r0, r1⟩ := h
  obtain ⟨c0, e0, q0⟩ := r0
  obtain ⟨c1, e1, q1⟩ := r1
  exact ⟨v0, v1, [], [], rfl, rfl, ⟨c0, e0, h0 _ _ _ q0⟩, ⟨c1, e1, h1 _ _ _ q1⟩⟩
theorem GDomino.dw {w : World} {x0 : (List Int)} {x1 : (List Int)} {v0 : Value} {v1 : Value} {C0 C1 C2 : List Nat} (h0 : Dw w v0 x0 C0 C1) (h1 : Dw w v1 x1 C1 C2) : Dw w (.agg #[v0, v1]) (⟨x0, x1⟩ : GDomino) C0 C2 := by
  intro hn
  obtain ⟨B1, B2, a0, a1, nd, mem, sub⟩ := h0.two h1 hn
  exact ⟨_, ⟨[v0, v1], rfl, v0, v1, B1, B2, rfl, rfl, a0, a1⟩, nd, mem, sub⟩
theorem GDomino.fc_Top (y : GDomino) : FC 0 y y.Top (fun z => (⟨z, y.Bottom⟩ : GDomino)) := by
  intro w c Bi h
  obtain ⟨v0, v1, B0, B1, rfl, rfl, h0, h1⟩ := h
  refine ⟨v0, _, rfl, h0.ds, fun hn => ?_, fun b hb => by simp [hb], fun w' z' hz hn hf => ?_⟩
  · simp only [List.nodup_append] at hn
    first | exact hn.1 | exact hn.2.1 | exact hn.1.1 | exact hn.1.2.1
  · exact ⟨v0, v1, _, _, rfl, rfl, hz.dc, h1.frame (fun b hb => hf b (by simp [hb]) (fun hm => by simp only [List.nodup_append, List.mem_append] at hn; grind))⟩
theorem GDomino.fc_Bottom (y : GDomino) : FC 1 y y.Bottom (fun z => (⟨y.Top, z⟩ : GDomino)) := by
  intro w c Bi h
  obtain ⟨v0, v1, B0, B1, rfl, rfl, h0, h1⟩ := h
  refine ⟨v1, _, rfl, h1.ds, fun hn => ?_, fun b hb => by simp [hb], fun w' z' hz hn hf => ?_⟩
  · simp only [List.nodup_append] at hn
    first | exact hn.1 | exact hn.2.1 | exact hn.1.1 | exact hn.1.2.1
  · exact ⟨v0, v1, _, _, rfl, rfl, h0.frame (fun b hb => hf b (by simp [hb]) (fun hm => by simp only [List.nodup_append, List.mem_append] at hn; grind)), hz.dc⟩
theorem GDomino.zero {A : Nat → Prop} {w : World} : ∃ zc : List Value, (Value.agg #[.slice none 0 0, .slice none 0 0]).cells = zc.toArray ∧ Rep.rdc A w zc (⟨[], []⟩ : GDomino) := ⟨[.slice none 0 0, .slice none 0 0], rfl, _, _, rfl, rdNil, rdNil⟩

structure Gl00Src where
  code : (List (Ik .u8))
  at_ : Int
  seed : (Ik .u64)
instance : Rep Gl00Src where
  sz := 3
  agg := true
  rdc A w cs t := ∃ v0, cs = [v0, .int .i64 t.at_, .int .u64 t.seed.val] ∧ Rd A w v0 t.code
  len := by
    intro A w cs t h
    obtain ⟨v0, rfl, h0⟩ := h
    rfl
  one := by
    intro A w cs t h c hc
    obtain ⟨v0, rfl, h0⟩ := h
    simp only [List.mem_cons, List.not_mem_nil, or_false] at hc
    rcases hc with rfl | rfl | rfl
    · exact (Rd.sl h0).oneCell
    · rfl
    · rfl
  pos := by decide
  single h := by cases h
  frame := by
    intro A A' w w' cs t h hf
    obtain ⟨v0, rfl, h0⟩ := h
    exact ⟨v0, rfl, h0.frame hf⟩
  dc w cs t B := ∃ v0 B0, cs = [v0, .int .i64 t.at_, .int .u64 t.seed.val] ∧ B = B0 ∧ Dc w v0 t.code B0
  dcf := by
    intro w w' cs t B h hf
    obtain ⟨v0, B0, rfl, rfl, h0⟩ := h
    exact ⟨v0, _, rfl, rfl, h0.frame (fun b hb => hf b (by simp [hb]))⟩
  dcr := by
    intro A w cs t B h hA
    obtain ⟨v0, B0, rfl, rfl, h0⟩ := h
    exact ⟨v0, rfl, h0.rd (fun b hb => hA b (by simp [hb]))⟩
  dlt := by
    intro w cs t B h b hb
    obtain ⟨v0, B0, rfl, rfl, h0⟩ := h
    exact h0.lt b hb
  flat := false
  flt h := by cases h
theorem Gl00Src.rdmk {A : Nat → Prop} {w : World} {v0 : Value} {x0 : (List (Ik .u8))} {v1 : Value} {x1 : Int} {v2 : Value} {x2 : (Ik .u64)} (h0 : Rd A w v0 x0) (h1 : Rd A w v1 x1) (h2 : Rd A w v2 x2) : Rd A w (.agg #[v0, v1, v2]) (⟨x0, x1, x2⟩ : Gl00Src) := by
  have e1 := Rd.int h1
  subst e1
  have e2 := Rd.ik h2
  subst e2
  exact ⟨[_, _, _], rfl, v0, rfl, h0⟩
theorem Gl00Src.open {A : Nat → Prop} {w : World} {v : Value} {t : Gl00Src} (h : Rd A w v t) : ∃ v0, v = .agg #[v0, .int .i64 t.at_, .int .u64 t.seed.val] ∧ Rd A w v0 t.code := by
  obtain ⟨cs, e, h⟩ := h
  obtain ⟨v0, rfl, h0⟩ := h
  exact ⟨v0, e, h0⟩
theorem Gl00Src.opens (t : Gl00Src) : Opens t (fun x : Value => .agg #[x, .int .i64 t.at_, .int .u64 t.seed.val]) (fun x => [.rd x t.code]) := by
  intro A B w v h
  obtain ⟨v0, e, h0⟩ := Gl00Src.open h
  refine ⟨v0, e, ?_⟩
  intro f hf
  simp only [List.mem_cons, List.not_mem_nil, or_false] at hf
  rcases hf with rfl
  · exact ⟨⟨rfl, rfl⟩, h0⟩
theorem Gl00Src.at_code (t : Gl00Src) : Part 0 t t.code := by
  intro A w cs h
  obtain ⟨v0, rfl, h0⟩ := h
  refine ⟨[v0], ?_, h0.cell rfl⟩
  intro j u hj
  match j, hj with
  | 0, hj => simpa using hj
theorem Gl00Src.at_at_ (t : Gl00Src) : Part 1 t t.at_ := by
  intro A w cs h
  obtain ⟨v0, rfl, h0⟩ := h
  refine ⟨[.int .i64 t.at_], ?_, rfl⟩
  intro j u hj
  match j, hj with
  | 0, hj => simpa using hj
theorem Gl00Src.at_seed (t : Gl00Src) : Part 2 t t.seed := by
  intro A w cs h
  obtain ⟨v0, rfl, h0⟩ := h
  refine ⟨[.int .u64 t.seed.val], ?_, rfl⟩
  intro j u hj
  match j, hj with
  | 0, hj => simpa using hj
theorem Gl00Src.nb {x0 : (List (Ik .u8))} {x1 : Int} {x2 : (Ik .u64)} (h0 : Nb x0) : Nb (⟨x0, x1, x2⟩ : Gl00Src) := by
  intro A w cs h
  obtain ⟨v0, rfl, r0⟩ := h
  obtain ⟨c0, e0, q0⟩ := r0
  exact ⟨v0, [], rfl, rfl, ⟨c0, e0, h0 _ _ _ q0⟩⟩
theorem Gl00Src.dw {w : World} {x0 : (List (Ik .u8))} {x1 : Int} {x2 : (Ik .u64)} {v0 : Value} {C0 C1 : List Nat} (h0 : Dw w v0 x0 C0 C1) : Dw w (.agg #[v0, .int .i64 x1, .int .u64 x2.val]) (⟨x0, x1, x2⟩ : Gl00Src) C0 C1 := by
  intro hn
  obtain ⟨B, a0, nd, mem, sub⟩ := h0 hn
  exact ⟨_, ⟨[v0, .int .i64 x1, .int .u64 x2.val], rfl, v0, B, rfl, rfl, a0⟩, nd, mem, sub⟩
theorem Gl00Src.fc_code (y : Gl00Src) : FC 0 y y.code (fun z => (⟨z, y.at_, y.seed⟩ : Gl00Src)) := by
  intro w c Bi h
  obtain ⟨v0, B0, rfl, rfl, h0⟩ := h
  refine ⟨v0, _, rfl, h0.ds, fun hn => ?_, fun b hb => hb, fun w' z' hz hn hf => ?_⟩
  · exact hn
  · exact ⟨v0, _, rfl, rfl, hz.dc⟩
theorem Gl00Src.fs_at_ (y : Gl00Src) : FSt 1 y (fun z => (⟨y.code, z, y.seed⟩ : Gl00Src)) := by
  intro w c Bi h
  obtain ⟨v0, B0, rfl, rfl, h0⟩ := h
  exact ⟨by simp, fun k => ⟨v0, _, rfl, rfl, h0⟩⟩
theorem Gl00Src.zero {A : Nat → Prop} {w : World} : ∃ zc : List Value, (Value.agg #[.slice none 0 0, .int .i64 0, .int .u64 0]).cells = zc.toArray ∧ Rep.rdc A w zc (⟨[], 0, ⟨0⟩⟩ : Gl00Src) := ⟨[.slice none 0 0, .int .i64 0, .int .u64 0], rfl, _, rfl, rdNil⟩

end Go.Fn
