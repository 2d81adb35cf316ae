/-
  The structures of the program, as plain Lean data, and how they are laid in memory. No condition.
-/
import Derived.Test.YtnpkepfmicgelaaPure
namespace Go.Fn
open Go Go.Tc

structure GDomino where
  Top : (List Int)
  Bottom : (List Int)
instance : DecidableEq GDomino := fun a b =>
  if h : a.Top = b.Top ∧ a.Bottom = b.Bottom then isTrue (by cases a; cases b; simp_all) else isFalse (by rintro rfl; simp at h)
instance : Rep GDomino where
  sz := 2
  agg := true
  rdc A w cs t := ∃ v0 v1, cs = [v0, v1] ∧ Rd A w v0 t.Top ∧ Rd A w v1 t.Bottom
  len := by
    intro A w cs t h
    obtain ⟨v0, v1, rfl, h0, h1⟩ := h
    rfl
  one := by
    intro A w cs t h c hc
    obtain ⟨v0, v1, rfl, h0, h1⟩ := h
    simp only [List.mem_cons, List.not_mem_nil, or_false] at hc
    rcases hc with rfl | rfl
    · exact (Rd.sl h0).oneCell
    · exact (Rd.sl h1).oneCell
  pos := by decide
  single h := by cases h
  frame := by
    intro A A' w w' cs t h hf
    obtain ⟨v0, v1, rfl, h0, h1⟩ := h
    exact ⟨v0, v1, rfl, h0.frame hf, h1.frame hf⟩
  dc w cs t B := ∃ v0 v1 B0 B1, cs = [v0, v1] ∧ B = B0 ++ B1 ∧ Dc w v0 t.Top B0 ∧ Dc w v1 t.Bottom B1
  dcf := by
    intro w w' cs t B h hf
    obtain ⟨v0, v1, B0, B1, rfl, rfl, h0, h1⟩ := h
    exact ⟨v0, v1, _, _, rfl, rfl, h0.frame (fun b hb => hf b (by simp [hb])), h1.frame (fun b hb => hf b (by simp [hb]))⟩
  dcr := by
    intro A w cs t B h hA
    obtain ⟨v0, v1, B0, B1, rfl, rfl, h0, h1⟩ := h
    exact ⟨v0, v1, rfl, h0.rd (fun b hb => hA b (by simp [hb])), h1.rd (fun b hb => hA b (by simp [hb]))⟩
  dlt := by
    intro w cs t B h b hb
    obtain ⟨v0, v1, B0, B1, rfl, rfl, h0, h1⟩ := h
    simp only [List.append_assoc, List.mem_append] at hb
    rcases hb with hb | hb
    · exact h0.lt b hb
    · exact h1.lt b hb
  flat := false
  flt h := by cases h
theorem GDomino.rdmk {A : Nat → Prop} {w : World} {v0 : Value} {x0 : (List Int)} {v1 : Value} {x1 : (List Int)} (h0 : Rd A w v0 x0) (h1 : Rd A w v1 x1) : Rd A w (.agg #[v0, v1]) (⟨x0, x1⟩ : GDomino) := by
  exact ⟨[_, _], rfl, v0, v1, rfl, h0, h1⟩
theorem GDomino.open {A : Nat → Prop} {w : World} {v : Value} {t : GDomino} (h : Rd A w v t) : ∃ v0 v1, v = .agg #[v0, v1] ∧ Rd A w v0 t.Top ∧ Rd A w v1 t.Bottom := by
  obtain ⟨cs, e, h⟩ := h
  obtain ⟨v0, v1, rfl, h0, h1⟩ := h
  exact ⟨v0, v1, e, h0, h1⟩
theorem GDomino.opens (t : GDomino) : Opens t (fun x : Value × Value => .agg #[x.1, x.2]) (fun x => [.rd x.1 t.Top, .rd x.2 t.Bottom]) := by
  intro A B w v h
  obtain ⟨v0, v1, e, h0, h1⟩ := GDomino.open h
  refine ⟨(v0, v1), e, ?_⟩
  intro f hf
  simp only [List.mem_cons, List.not_mem_nil, or_false] at hf
  rcases hf with rfl | rfl
  · exact ⟨⟨rfl, rfl⟩, h0⟩
  · exact ⟨⟨rfl, rfl⟩, h1⟩
theorem GDomino.two (y : GDomino) : Two y y.Top y.Bottom := fun w cs B => ⟨fun ⟨v0, v1, B0, B1, e, eB, h0, h1⟩ => ⟨v0, v1, B0, B1, e, eB, h0.ds, h1.ds⟩, fun ⟨v0, v1, B0, B1, e, eB, h0, h1⟩ => ⟨v0, v1, B0, B1, e, eB, h0.dc, h1.dc⟩⟩
theorem GDomino.at_Top (t : GDomino) : Part 0 t t.Top := by
  intro A w cs h
  obtain ⟨v0, v1, rfl, h0, h1⟩ := h
  refine ⟨[v0], ?_, h0.cell rfl⟩
  intro j u hj
  match j, hj with
  | 0, hj => simpa using hj
theorem GDomino.at_Bottom (t : GDomino) : Part 1 t t.Bottom := by
  intro A w cs h
  obtain ⟨v0, v1, rfl, h0, h1⟩ := h
  refine ⟨[v1], ?_, h1.cell rfl⟩
  intro j u hj
  match j, hj with
  | 0, hj => simpa using hj
theorem GDomino.nb {x0 : (List Int)} {x1 : (List Int)} (h0 : Nb x0) (h1 : Nb x1) : Nb (⟨x0, x1⟩ : GDomino) := by
  intro A w cs h
  obtain ⟨v0, v1, rfl, r0, r1⟩ := h
  obtain ⟨c0, e0, q0⟩ := r0
  obtain ⟨c1, e1, q1⟩ := r1
  exact ⟨v0, v1, [], [], rfl, rfl, ⟨c0, e0, h0 _ _ _ q0⟩, ⟨c1, e1, h1 _ _ _ q1⟩⟩
theorem GDomino.dw {w : World} {x0 : (List Int)} {x1 : (List Int)} {v0 : Value} {v1 : Value} {C0 C1 C2 : List Nat} (h0 : Dw w v0 x0 C0 C1) (h1 : Dw w v1 x1 C1 C2) : Dw w (.agg #[v0, v1]) (⟨x0, x1⟩ : GDomino) C0 C2 := by
  intro hn
  obtain ⟨B1, B2, a0, a1, nd, mem, sub⟩ := h0.two h1 hn
  exact ⟨_, ⟨[v0, v1], rfl, v0, v1, B1, B2, rfl, rfl, a0, a1⟩, nd, mem, sub⟩
theorem GDomino.fc_Top (y : GDomino) : FC 0 y y.Top (fun z => (⟨z, y.Bottom⟩ : GDomino)) := by
  intro w c Bi h
  obtain ⟨v0, v1, B0, B1, rfl, rfl, h0, h1⟩ := h
  refine ⟨v0, _, rfl, h0.ds, fun hn => ?_, fun b hb => by simp [hb], fun w' z' hz hn hf => ?_⟩
  · simp only [List.nodup_append] at hn
    first | exact hn.1 | exact hn.2.1 | exact hn.1.1 | exact hn.1.2.1
  · exact ⟨v0, v1, _, _, rfl, rfl, hz.dc, h1.frame (fun b hb => hf b (by simp [hb]) (fun hm => by simp only [List.nodup_append, List.mem_append] at hn; grind))⟩
theorem GDomino.fc_Bottom (y : GDomino) : FC 1 y y.Bottom (fun z => (⟨y.Top, z⟩ : GDomino)) := by
  intro w c Bi h
  obtain ⟨v0, v1, B0, B1, rfl, rfl, h0, h1⟩ := h
  refine ⟨v1, _, rfl, h1.ds, fun hn => ?_, fun b hb => by simp [hb], fun w' z' hz hn hf => ?_⟩
  · simp only [List.nodup_append] at hn
    first | exact hn.1 | exact hn.2.1 | exact hn.1.1 | exact hn.1.2.1
  · exact ⟨v0, v1, _, _, rfl, rfl, h0.frame (fun b hb => hf b (by simp [hb]) (fun hm => by simp only [List.nodup_append, List.mem_append] at hn; grind)), hz.dc⟩
theorem GDomino.zero {A : Nat → Prop} {w : World} : ∃ zc : List Value, (Value.agg #[.slice none 0 0, .slice none 0 0]).cells = zc.toArray ∧ Rep.rdc A w zc (⟨[], []⟩ : GDomino) := ⟨[.slice none 0 0, .slice none 0 0], rfl, _, _, rfl, rdNil, rdNil⟩

end Go.Fn
