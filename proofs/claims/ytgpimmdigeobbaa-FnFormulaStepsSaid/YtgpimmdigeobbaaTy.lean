/-
  The structures of the program, as plain Lean data, and how they are laid in memory. No condition.
-/
import Derived.Test.YtgpimmdigeobbaaPure
namespace Go.Fn
open Go Go.Tc
structure GRule where
 Write : Int
 Move : Int
 Next : Int
instance : DecidableEq GRule := fun a b =>
 if h : a.Write = b.Write ∧ a.Move = b.Move ∧ a.Next = b.Next then isTrue (by cases a; cases b; simp_all) else isFalse (by rintro rfl; simp at h)
instance : Rep GRule where
 sz := 3
 agg := true
 rdc A w cs t := cs = [.int .i64 t.Write, .int .i64 t.Move, .int .i64 t.Next]
 len := by
  intro A w cs t h
  obtain rfl := h
  rfl
 one := by
  intro A w cs t h c hc
  obtain rfl := h
  simp only [List.mem_cons, List.not_mem_nil, or_false] at hc
  rcases hc with rfl | rfl | rfl
  ·rfl
  ·rfl
  ·rfl
 pos := by decide
 single h := by cases h
 frame := by
  intro A A' w w' cs t h hf
  obtain rfl := h
  exact rfl
 dc _ cs t B := cs = [.int .i64 t.Write, .int .i64 t.Move, .int .i64 t.Next] ∧ B = []
 dcf h _ := h
 dcr h _ := h.1
 dlt h b hb := by simp [h.2] at hb
 flat := true
 flt _ h := ⟨h, rfl⟩
theorem GRule.rdmk {A : Nat → Prop} {w : World} {v0 : Value} {x0 : Int} {v1 : Value} {x1 : Int} {v2 : Value} {x2 : Int} (h0 : Rd A w v0 x0) (h1 : Rd A w v1 x1) (h2 : Rd A w v2 x2) : Rd A w (.agg #[v0, v1, v2]) (⟨x0, x1, x2⟩ : GRule) := by
 have e0 := Rd.int h0
 subst e0
 have e1 := Rd.int h1
 subst e1
 have e2 := Rd.int h2
 subst e2
 exact ⟨[_, _, _], rfl, rfl⟩
theorem GRule.open {A : Nat → Prop} {w : World} {v : Value} {t : GRule} (h : Rd A w v t) : v = .agg #[.int .i64 t.Write, .int .i64 t.Move, .int .i64 t.Next] := by
 obtain ⟨cs, e, h⟩ := h
 subst h
 exact e
theorem GRule.opens (t : GRule) : Opens t (fun _ : Unit => .agg #[.int .i64 t.Write, .int .i64 t.Move, .int .i64 t.Next]) (fun _ => []) := by
 intro A B w v h
 exact ⟨(), GRule.open h, by simp⟩
def GRule.enc (t : GRule) : Value := .agg #[.int .i64 t.Write, .int .i64 t.Move, .int .i64 t.Next]
theorem GRule.nb {x : GRule} : Nb x := nb_flat rfl x
structure GMachine where
 Symbols : Int
 States : Int
 Rules : (List GRule)
instance : Rep GMachine where
 sz := 3
 agg := true
 rdc A w cs t := ∃ v2, cs = [.int .i64 t.Symbols, .int .i64 t.States, v2] ∧ Rd A w v2 t.Rules
 len := by
  intro A w cs t h
  obtain ⟨v2, rfl, h2⟩ := h
  rfl
 one := by
  intro A w cs t h c hc
  obtain ⟨v2, rfl, h2⟩ := h
  simp only [List.mem_cons, List.not_mem_nil, or_false] at hc
  rcases hc with rfl | rfl | rfl
  ·rfl
  ·rfl
  ·exact (Rd.sl h2).oneCell
 pos := by decide
 single h := by cases h
 frame := by
  intro A A' w w' cs t h hf
  obtain ⟨v2, rfl, h2⟩ := h
  exact ⟨v2, rfl, h2.frame hf⟩
 dc w cs t B := ∃ v2 B2, cs = [.int .i64 t.Symbols, .int .i64 t.States, v2] ∧ B = B2 ∧ Dc w v2 t.Rules B2
 dcf := by
  intro w w' cs t B h hf
  obtain ⟨v2, B2, rfl, rfl, h2⟩ := h
  exact ⟨v2, _, rfl, rfl, h2.frame (fun b hb => hf b (by simp [hb]))⟩
 dcr := by
  intro A w cs t B h hA
  obtain ⟨v2, B2, rfl, rfl, h2⟩ := h
  exact ⟨v2, rfl, h2.rd (fun b hb => hA b (by simp [hb]))⟩
 dlt := by
  intro w cs t B h b hb
  obtain ⟨v2, B2, rfl, rfl, h2⟩ := h
  exact h2.lt b hb
 flat := false
 flt h := by cases h
theorem GMachine.rdmk {A : Nat → Prop} {w : World} {v0 : Value} {x0 : Int} {v1 : Value} {x1 : Int} {v2 : Value} {x2 : (List GRule)} (h0 : Rd A w v0 x0) (h1 : Rd A w v1 x1) (h2 : Rd A w v2 x2) : Rd A w (.agg #[v0, v1, v2]) (⟨x0, x1, x2⟩ : GMachine) := by
 have e0 := Rd.int h0
 subst e0
 have e1 := Rd.int h1
 subst e1
 exact ⟨[_, _, _], rfl, v2, rfl, h2⟩
theorem GMachine.open {A : Nat → Prop} {w : World} {v : Value} {t : GMachine} (h : Rd A w v t) : ∃ v2, v = .agg #[.int .i64 t.Symbols, .int .i64 t.States, v2] ∧ Rd A w v2 t.Rules := by
 obtain ⟨cs, e, h⟩ := h
 obtain ⟨v2, rfl, h2⟩ := h
 exact ⟨v2, e, h2⟩
theorem GMachine.opens (t : GMachine) : Opens t (fun x : Value => .agg #[.int .i64 t.Symbols, .int .i64 t.States, x]) (fun x => [.rd x t.Rules]) := by
 intro A B w v h
 obtain ⟨v2, e, h2⟩ := GMachine.open h
 refine ⟨v2, e, ?_⟩
 intro f hf
 simp only [List.mem_cons, List.not_mem_nil, or_false] at hf
 rcases hf with rfl
 ·exact ⟨⟨rfl, rfl⟩, h2⟩
theorem GMachine.at_Symbols (t : GMachine) : Part 0 t t.Symbols := by
 intro A w cs h
 obtain ⟨v2, rfl, h2⟩ := h
 refine ⟨[.int .i64 t.Symbols], ?_, rfl⟩
 intro j u hj
 match j, hj with
 | 0, hj => simpa using hj
theorem GMachine.at_States (t : GMachine) : Part 1 t t.States := by
 intro A w cs h
 obtain ⟨v2, rfl, h2⟩ := h
 refine ⟨[.int .i64 t.States], ?_, rfl⟩
 intro j u hj
 match j, hj with
 | 0, hj => simpa using hj
theorem GMachine.at_Rules (t : GMachine) : Part 2 t t.Rules := by
 intro A w cs h
 obtain ⟨v2, rfl, h2⟩ := h
 refine ⟨[v2], ?_, h2.cell rfl⟩
 intro j u hj
 match j, hj with
 | 0, hj => simpa using hj
structure GFormula where
 State : Int
 Head : Int
 At : Int
 Walls : (List (List Int))
 Repeats : (List (List Int))
 Offsets : (List Int)
instance : Rep GFormula where
 sz := 6
 agg := true
 rdc A w cs t := ∃ v3 v4 v5, cs = [.int .i64 t.State, .int .i64 t.Head, .int .i64 t.At, v3, v4, v5] ∧ Rd A w v3 t.Walls ∧ Rd A w v4 t.Repeats ∧ Rd A w v5 t.Offsets
 len := by
  intro A w cs t h
  obtain ⟨v3, v4, v5, rfl, h3, h4, h5⟩ := h
  rfl
 one := by
  intro A w cs t h c hc
  obtain ⟨v3, v4, v5, rfl, h3, h4, h5⟩ := h
  simp only [List.mem_cons, List.not_mem_nil, or_false] at hc
  rcases hc with rfl | rfl | rfl | rfl | rfl | rfl
  ·rfl
  ·rfl
  ·rfl
  ·exact (Rd.sl h3).oneCell
  ·exact (Rd.sl h4).oneCell
  ·exact (Rd.sl h5).oneCell
 pos := by decide
 single h := by cases h
 frame := by
  intro A A' w w' cs t h hf
  obtain ⟨v3, v4, v5, rfl, h3, h4, h5⟩ := h
  exact ⟨v3, v4, v5, rfl, h3.frame hf, h4.frame hf, h5.frame hf⟩
 dc w cs t B := ∃ v3 v4 v5 B3 B4 B5, cs = [.int .i64 t.State, .int .i64 t.Head, .int .i64 t.At, v3, v4, v5] ∧ B = B3 ++ B4 ++ B5 ∧ Dc w v3 t.Walls B3 ∧ Dc w v4 t.Repeats B4 ∧ Dc w v5 t.Offsets B5
 dcf := by
  intro w w' cs t B h hf
  obtain ⟨v3, v4, v5, B3, B4, B5, rfl, rfl, h3, h4, h5⟩ := h
  exact ⟨v3, v4, v5, _, _, _, rfl, rfl, h3.frame (fun b hb => hf b (by simp [hb])), h4.frame (fun b hb => hf b (by simp [hb])), h5.frame (fun b hb => hf b (by simp [hb]))⟩
 dcr := by
  intro A w cs t B h hA
  obtain ⟨v3, v4, v5, B3, B4, B5, rfl, rfl, h3, h4, h5⟩ := h
  exact ⟨v3, v4, v5, rfl, h3.rd (fun b hb => hA b (by simp [hb])), h4.rd (fun b hb => hA b (by simp [hb])), h5.rd (fun b hb => hA b (by simp [hb]))⟩
 dlt := by
  intro w cs t B h b hb
  obtain ⟨v3, v4, v5, B3, B4, B5, rfl, rfl, h3, h4, h5⟩ := h
  simp only [List.append_assoc, List.mem_append] at hb
  rcases hb with hb | hb | hb
  ·exact h3.lt b hb
  ·exact h4.lt b hb
  ·exact h5.lt b hb
 flat := false
 flt h := by cases h
theorem GFormula.rdmk {A : Nat → Prop} {w : World} {v0 : Value} {x0 : Int} {v1 : Value} {x1 : Int} {v2 : Value} {x2 : Int} {v3 : Value} {x3 : (List (List Int))} {v4 : Value} {x4 : (List (List Int))} {v5 : Value} {x5 : (List Int)} (h0 : Rd A w v0 x0) (h1 : Rd A w v1 x1) (h2 : Rd A w v2 x2) (h3 : Rd A w v3 x3) (h4 : Rd A w v4 x4) (h5 : Rd A w v5 x5) : Rd A w (.agg #[v0, v1, v2, v3, v4, v5]) (⟨x0, x1, x2, x3, x4, x5⟩ : GFormula) := by
 have e0 := Rd.int h0
 subst e0
 have e1 := Rd.int h1
 subst e1
 have e2 := Rd.int h2
 subst e2
 exact ⟨[_, _, _, _, _, _], rfl, v3, v4, v5, rfl, h3, h4, h5⟩
theorem GFormula.open {A : Nat → Prop} {w : World} {v : Value} {t : GFormula} (h : Rd A w v t) : ∃ v3 v4 v5, v = .agg #[.int .i64 t.State, .int .i64 t.Head, .int .i64 t.At, v3, v4, v5] ∧ Rd A w v3 t.Walls ∧ Rd A w v4 t.Repeats ∧ Rd A w v5 t.Offsets := by
 obtain ⟨cs, e, h⟩ := h
 obtain ⟨v3, v4, v5, rfl, h3, h4, h5⟩ := h
 exact ⟨v3, v4, v5, e, h3, h4, h5⟩
theorem GFormula.at_State (t : GFormula) : Part 0 t t.State := by
 intro A w cs h
 obtain ⟨v3, v4, v5, rfl, h3, h4, h5⟩ := h
 refine ⟨[.int .i64 t.State], ?_, rfl⟩
 intro j u hj
 match j, hj with
 | 0, hj => simpa using hj
theorem GFormula.at_Head (t : GFormula) : Part 1 t t.Head := by
 intro A w cs h
 obtain ⟨v3, v4, v5, rfl, h3, h4, h5⟩ := h
 refine ⟨[.int .i64 t.Head], ?_, rfl⟩
 intro j u hj
 match j, hj with
 | 0, hj => simpa using hj
theorem GFormula.at_At (t : GFormula) : Part 2 t t.At := by
 intro A w cs h
 obtain ⟨v3, v4, v5, rfl, h3, h4, h5⟩ := h
 refine ⟨[.int .i64 t.At], ?_, rfl⟩
 intro j u hj
 match j, hj with
 | 0, hj => simpa using hj
theorem GFormula.at_Walls (t : GFormula) : Part 3 t t.Walls := by
 intro A w cs h
 obtain ⟨v3, v4, v5, rfl, h3, h4, h5⟩ := h
 refine ⟨[v3], ?_, h3.cell rfl⟩
 intro j u hj
 match j, hj with
 | 0, hj => simpa using hj
theorem GFormula.at_Repeats (t : GFormula) : Part 4 t t.Repeats := by
 intro A w cs h
 obtain ⟨v3, v4, v5, rfl, h3, h4, h5⟩ := h
 refine ⟨[v4], ?_, h4.cell rfl⟩
 intro j u hj
 match j, hj with
 | 0, hj => simpa using hj
theorem GFormula.at_Offsets (t : GFormula) : Part 5 t t.Offsets := by
 intro A w cs h
 obtain ⟨v3, v4, v5, rfl, h3, h4, h5⟩ := h
 refine ⟨[v5], ?_, h5.cell rfl⟩
 intro j u hj
 match j, hj with
 | 0, hj => simpa using hj
structure GConfig where
 State : Int
 Left : (List Int)
 Right : (List Int)
instance : DecidableEq GConfig := fun a b =>
 if h : a.State = b.State ∧ a.Left = b.Left ∧ a.Right = b.Right then isTrue (by cases a; cases b; simp_all) else isFalse (by rintro rfl; simp at h)
instance : Rep GConfig where
 sz := 3
 agg := true
 rdc A w cs t := ∃ v1 v2, cs = [.int .i64 t.State, v1, v2] ∧ Rd A w v1 t.Left ∧ Rd A w v2 t.Right
 len := by
  intro A w cs t h
  obtain ⟨v1, v2, rfl, h1, h2⟩ := h
  rfl
 one := by
  intro A w cs t h c hc
  obtain ⟨v1, v2, rfl, h1, h2⟩ := h
  simp only [List.mem_cons, List.not_mem_nil, or_false] at hc
  rcases hc with rfl | rfl | rfl
  ·rfl
  ·exact (Rd.sl h1).oneCell
  ·exact (Rd.sl h2).oneCell
 pos := by decide
 single h := by cases h
 frame := by
  intro A A' w w' cs t h hf
  obtain ⟨v1, v2, rfl, h1, h2⟩ := h
  exact ⟨v1, v2, rfl, h1.frame hf, h2.frame hf⟩
 dc w cs t B := ∃ v1 v2 B1 B2, cs = [.int .i64 t.State, v1, v2] ∧ B = B1 ++ B2 ∧ Dc w v1 t.Left B1 ∧ Dc w v2 t.Right B2
 dcf := by
  intro w w' cs t B h hf
  obtain ⟨v1, v2, B1, B2, rfl, rfl, h1, h2⟩ := h
  exact ⟨v1, v2, _, _, rfl, rfl, h1.frame (fun b hb => hf b (by simp [hb])), h2.frame (fun b hb => hf b (by simp [hb]))⟩
 dcr := by
  intro A w cs t B h hA
  obtain ⟨v1, v2, B1, B2, rfl, rfl, h1, h2⟩ := h
  exact ⟨v1, v2, rfl, h1.rd (fun b hb => hA b (by simp [hb])), h2.rd (fun b hb => hA b (by simp [hb]))⟩
 dlt := by
  intro w cs t B h b hb
  obtain ⟨v1, v2, B1, B2, rfl, rfl, h1, h2⟩ := h
  simp only [List.append_assoc, List.mem_append] at hb
  rcases hb with hb | hb
  ·exact h1.lt b hb
  ·exact h2.lt b hb
 flat := false
 flt h := by cases h
theorem GConfig.rdmk {A : Nat → Prop} {w : World} {v0 : Value} {x0 : Int} {v1 : Value} {x1 : (List Int)} {v2 : Value} {x2 : (List Int)} (h0 : Rd A w v0 x0) (h1 : Rd A w v1 x1) (h2 : Rd A w v2 x2) : Rd A w (.agg #[v0, v1, v2]) (⟨x0, x1, x2⟩ : GConfig) := by
 have e0 := Rd.int h0
 subst e0
 exact ⟨[_, _, _], rfl, v1, v2, rfl, h1, h2⟩
theorem GConfig.open {A : Nat → Prop} {w : World} {v : Value} {t : GConfig} (h : Rd A w v t) : ∃ v1 v2, v = .agg #[.int .i64 t.State, v1, v2] ∧ Rd A w v1 t.Left ∧ Rd A w v2 t.Right := by
 obtain ⟨cs, e, h⟩ := h
 obtain ⟨v1, v2, rfl, h1, h2⟩ := h
 exact ⟨v1, v2, e, h1, h2⟩
theorem GConfig.at_State (t : GConfig) : Part 0 t t.State := by
 intro A w cs h
 obtain ⟨v1, v2, rfl, h1, h2⟩ := h
 refine ⟨[.int .i64 t.State], ?_, rfl⟩
 intro j u hj
 match j, hj with
 | 0, hj => simpa using hj
structure Grunner where
 m_Symbols : Int
 m_States : Int
 m_Rules : (List GRule)
 state : Int
 left : (List Int)
 right : (List Int)
instance : Rep Grunner where
 sz := 6
 agg := true
 rdc A w cs t := ∃ v2 v4 v5, cs = [.int .i64 t.m_Symbols, .int .i64 t.m_States, v2, .int .i64 t.state, v4, v5] ∧ Rd A w v2 t.m_Rules ∧ Rd A w v4 t.left ∧ Rd A w v5 t.right
 len := by
  intro A w cs t h
  obtain ⟨v2, v4, v5, rfl, h2, h4, h5⟩ := h
  rfl
 one := by
  intro A w cs t h c hc
  obtain ⟨v2, v4, v5, rfl, h2, h4, h5⟩ := h
  simp only [List.mem_cons, List.not_mem_nil, or_false] at hc
  rcases hc with rfl | rfl | rfl | rfl | rfl | rfl
  ·rfl
  ·rfl
  ·exact (Rd.sl h2).oneCell
  ·rfl
  ·exact (Rd.sl h4).oneCell
  ·exact (Rd.sl h5).oneCell
 pos := by decide
 single h := by cases h
 frame := by
  intro A A' w w' cs t h hf
  obtain ⟨v2, v4, v5, rfl, h2, h4, h5⟩ := h
  exact ⟨v2, v4, v5, rfl, h2.frame hf, h4.frame hf, h5.frame hf⟩
 dc w cs t B := ∃ v2 v4 v5 B2 B4 B5, cs = [.int .i64 t.m_Symbols, .int .i64 t.m_States, v2, .int .i64 t.state, v4, v5] ∧ B = B2 ++ B4 ++ B5 ∧ Dc w v2 t.m_Rules B2 ∧ Dc w v4 t.left B4 ∧ Dc w v5 t.right B5
 dcf := by
  intro w w' cs t B h hf
  obtain ⟨v2, v4, v5, B2, B4, B5, rfl, rfl, h2, h4, h5⟩ := h
  exact ⟨v2, v4, v5, _, _, _, rfl, rfl, h2.frame (fun b hb => hf b (by simp [hb])), h4.frame (fun b hb => hf b (by simp [hb])), h5.frame (fun b hb => hf b (by simp [hb]))⟩
 dcr := by
  intro A w cs t B h hA
  obtain ⟨v2, v4, v5, B2, B4, B5, rfl, rfl, h2, h4, h5⟩ := h
  exact ⟨v2, v4, v5, rfl, h2.rd (fun b hb => hA b (by simp [hb])), h4.rd (fun b hb => hA b (by simp [hb])), h5.rd (fun b hb => hA b (by simp [hb]))⟩
 dlt := by
  intro w cs t B h b hb
  obtain ⟨v2, v4, v5, B2, B4, B5, rfl, rfl, h2, h4, h5⟩ := h
  simp only [List.append_assoc, List.mem_append] at hb
  rcases hb with hb | hb | hb
  ·exact h2.lt b hb
  ·exact h4.lt b hb
  ·exact h5.lt b hb
 flat := false
 flt h := by cases h
theorem Grunner.rdmk {A : Nat → Prop} {w : World} {v0 : Value} {x0 : Int} {v1 : Value} {x1 : Int} {v2 : Value} {x2 : (List GRule)} {v3 : Value} {x3 : Int} {v4 : Value} {x4 : (List Int)} {v5 : Value} {x5 : (List Int)} (h0 : Rd A w v0 x0) (h1 : Rd A w v1 x1) (h2 : Rd A w v2 x2) (h3 : Rd A w v3 x3) (h4 : Rd A w v4 x4) (h5 : Rd A w v5 x5) : Rd A w (.agg #[v0, v1, v2, v3, v4, v5]) (⟨x0, x1, x2, x3, x4, x5⟩ : Grunner) := by
 have e0 := Rd.int h0
 subst e0
 have e1 := Rd.int h1
 subst e1
 have e3 := Rd.int h3
 subst e3
 exact ⟨[_, _, _, _, _, _], rfl, v2, v4, v5, rfl, h2, h4, h5⟩
theorem Grunner.at_state (t : Grunner) : Part 3 t t.state := by
 intro A w cs h
 obtain ⟨v2, v4, v5, rfl, h2, h4, h5⟩ := h
 refine ⟨[.int .i64 t.state], ?_, rfl⟩
 intro j u hj
 match j, hj with
 | 0, hj => simpa using hj
theorem Grunner.at_left (t : Grunner) : Part 4 t t.left := by
 intro A w cs h
 obtain ⟨v2, v4, v5, rfl, h2, h4, h5⟩ := h
 refine ⟨[v4], ?_, h4.cell rfl⟩
 intro j u hj
 match j, hj with
 | 0, hj => simpa using hj
theorem Grunner.at_right (t : Grunner) : Part 5 t t.right := by
 intro A w cs h
 obtain ⟨v2, v4, v5, rfl, h2, h4, h5⟩ := h
 refine ⟨[v5], ?_, h5.cell rfl⟩
 intro j u hj
 match j, hj with
 | 0, hj => simpa using hj
theorem Grunner.at_m (t : Grunner) : Part 0 t (⟨t.m_Symbols, t.m_States, t.m_Rules⟩ : GMachine) := by
 intro A w cs h
 obtain ⟨v2, v4, v5, rfl, h2, h4, h5⟩ := h
 refine ⟨[.int .i64 t.m_Symbols, .int .i64 t.m_States, v2], ?_, ⟨v2, rfl, h2⟩⟩
 intro j u hj
 match j, hj with
 | 0, hj => simpa using hj
 | 1, hj => simpa using hj
 | 2, hj => simpa using hj
structure Gl00Src where
 code : (List (Ik .u8))
 at_ : Int
 seed : (Ik .u64)
instance : Rep Gl00Src where
 sz := 3
 agg := true
 rdc A w cs t := ∃ v0, cs = [v0, .int .i64 t.at_, .int .u64 t.seed.val] ∧ Rd A w v0 t.code
 len := by
  intro A w cs t h
  obtain ⟨v0, rfl, h0⟩ := h
  rfl
 one := by
  intro A w cs t h c hc
  obtain ⟨v0, rfl, h0⟩ := h
  simp only [List.mem_cons, List.not_mem_nil, or_false] at hc
  rcases hc with rfl | rfl | rfl
  ·exact (Rd.sl h0).oneCell
  ·rfl
  ·rfl
 pos := by decide
 single h := by cases h
 frame := by
  intro A A' w w' cs t h hf
  obtain ⟨v0, rfl, h0⟩ := h
  exact ⟨v0, rfl, h0.frame hf⟩
 dc w cs t B := ∃ v0 B0, cs = [v0, .int .i64 t.at_, .int .u64 t.seed.val] ∧ B = B0 ∧ Dc w v0 t.code B0
 dcf := by
  intro w w' cs t B h hf
  obtain ⟨v0, B0, rfl, rfl, h0⟩ := h
  exact ⟨v0, _, rfl, rfl, h0.frame (fun b hb => hf b (by simp [hb]))⟩
 dcr := by
  intro A w cs t B h hA
  obtain ⟨v0, B0, rfl, rfl, h0⟩ := h
  exact ⟨v0, rfl, h0.rd (fun b hb => hA b (by simp [hb]))⟩
 dlt := by
  intro w cs t B h b hb
  obtain ⟨v0, B0, rfl, rfl, h0⟩ := h
  exact h0.lt b hb
 flat := false
 flt h := by cases h
end Go.Fn
