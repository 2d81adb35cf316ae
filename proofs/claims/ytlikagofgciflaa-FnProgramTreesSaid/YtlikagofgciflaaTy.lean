/-
  The structures of the program, as plain Lean data, and how they are laid in memory. No condition.
-/
import Derived.Test.YtlikagofgciflaaPure
namespace Go.Fn
open Go Go.Tc
structure GExpr where
 Kind : Int
 Variable : Int
instance : DecidableEq GExpr := fun a b =>
 if h : a.Kind = b.Kind ∧ a.Variable = b.Variable then isTrue (by cases a; cases b; simp_all) else isFalse (by rintro rfl; simp at h)
instance : Rep GExpr where
 sz := 2
 agg := true
 rdc A w cs t := cs = [.int .i64 t.Kind, .int .i64 t.Variable]
 len := by
  intro A w cs t h
  obtain rfl := h
  rfl
 one := by
  intro A w cs t h c hc
  obtain rfl := h
  simp only [List.mem_cons, List.not_mem_nil, or_false] at hc
  rcases hc with rfl | rfl
  ·rfl
  ·rfl
 pos := by decide
 single h := by cases h
 frame := by
  intro A A' w w' cs t h hf
  obtain rfl := h
  exact rfl
 dc _ cs t B := cs = [.int .i64 t.Kind, .int .i64 t.Variable] ∧ B = []
 dcf h _ := h
 dcr h _ := h.1
 dlt h b hb := by simp [h.2] at hb
 flat := true
 flt _ h := ⟨h, rfl⟩
theorem GExpr.rdmk {A : Nat → Prop} {w : World} {v0 : Value} {x0 : Int} {v1 : Value} {x1 : Int} (h0 : Rd A w v0 x0) (h1 : Rd A w v1 x1) : Rd A w (.agg #[v0, v1]) (⟨x0, x1⟩ : GExpr) := by
 have e0 := Rd.int h0
 subst e0
 have e1 := Rd.int h1
 subst e1
 exact ⟨[_, _], rfl, rfl⟩
theorem GExpr.open {A : Nat → Prop} {w : World} {v : Value} {t : GExpr} (h : Rd A w v t) : v = .agg #[.int .i64 t.Kind, .int .i64 t.Variable] := by
 obtain ⟨cs, e, h⟩ := h
 subst h
 exact e
theorem GExpr.opens (t : GExpr) : Opens t (fun _ : Unit => .agg #[.int .i64 t.Kind, .int .i64 t.Variable]) (fun _ => []) := by
 intro A B w v h
 exact ⟨(), GExpr.open h, by simp⟩
theorem GExpr.at_Kind (t : GExpr) : Part 0 t t.Kind := by
 intro A w cs h
 obtain rfl := h
 refine ⟨[.int .i64 t.Kind], ?_, rfl⟩
 intro j u hj
 match j, hj with
 | 0, hj => simpa using hj
theorem GExpr.at_Variable (t : GExpr) : Part 1 t t.Variable := by
 intro A w cs h
 obtain rfl := h
 refine ⟨[.int .i64 t.Variable], ?_, rfl⟩
 intro j u hj
 match j, hj with
 | 0, hj => simpa using hj
def GExpr.enc (t : GExpr) : Value := .agg #[.int .i64 t.Kind, .int .i64 t.Variable]
theorem GExpr.nb {x : GExpr} : Nb x := nb_flat rfl x
theorem GExpr.zero {A : Nat → Prop} {w : World} : ∃ zc : List Value, (Value.agg #[.int .i64 0, .int .i64 0]).cells = zc.toArray ∧ Rep.rdc A w zc (⟨0, 0⟩ : GExpr) := ⟨[.int .i64 0, .int .i64 0], rfl, rfl⟩
structure GCommand where
 Kind : Int
 Variable : Int
 Length : Int
 Value_ : (List GExpr)
instance : Rep GCommand where
 sz := 4
 agg := true
 rdc A w cs t := ∃ v3, cs = [.int .i64 t.Kind, .int .i64 t.Variable, .int .i64 t.Length, v3] ∧ Rd A w v3 t.Value_
 len := by
  intro A w cs t h
  obtain ⟨v3, rfl, h3⟩ := h
  rfl
 one := by
  intro A w cs t h c hc
  obtain ⟨v3, rfl, h3⟩ := h
  simp only [List.mem_cons, List.not_mem_nil, or_false] at hc
  rcases hc with rfl | rfl | rfl | rfl
  ·rfl
  ·rfl
  ·rfl
  ·exact (Rd.sl h3).oneCell
 pos := by decide
 single h := by cases h
 frame := by
  intro A A' w w' cs t h hf
  obtain ⟨v3, rfl, h3⟩ := h
  exact ⟨v3, rfl, h3.frame hf⟩
 dc w cs t B := ∃ v3 B3, cs = [.int .i64 t.Kind, .int .i64 t.Variable, .int .i64 t.Length, v3] ∧ B = B3 ∧ Dc w v3 t.Value_ B3
 dcf := by
  intro w w' cs t B h hf
  obtain ⟨v3, B3, rfl, rfl, h3⟩ := h
  exact ⟨v3, _, rfl, rfl, h3.frame (fun b hb => hf b (by simp [hb]))⟩
 dcr := by
  intro A w cs t B h hA
  obtain ⟨v3, B3, rfl, rfl, h3⟩ := h
  exact ⟨v3, rfl, h3.rd (fun b hb => hA b (by simp [hb]))⟩
 dlt := by
  intro w cs t B h b hb
  obtain ⟨v3, B3, rfl, rfl, h3⟩ := h
  exact h3.lt b hb
 flat := false
 flt h := by cases h
theorem GCommand.rdmk {A : Nat → Prop} {w : World} {v0 : Value} {x0 : Int} {v1 : Value} {x1 : Int} {v2 : Value} {x2 : Int} {v3 : Value} {x3 : (List GExpr)} (h0 : Rd A w v0 x0) (h1 : Rd A w v1 x1) (h2 : Rd A w v2 x2) (h3 : Rd A w v3 x3) : Rd A w (.agg #[v0, v1, v2, v3]) (⟨x0, x1, x2, x3⟩ : GCommand) := by
 have e0 := Rd.int h0
 subst e0
 have e1 := Rd.int h1
 subst e1
 have e2 := Rd.int h2
 subst e2
 exact ⟨[_, _, _, _], rfl, v3, rfl, h3⟩
theorem GCommand.open {A : Nat → Prop} {w : World} {v : Value} {t : GCommand} (h : Rd A w v t) : ∃ v3, v = .agg #[.int .i64 t.Kind, .int .i64 t.Variable, .int .i64 t.Length, v3] ∧ Rd A w v3 t.Value_ := by
 obtain ⟨cs, e, h⟩ := h
 obtain ⟨v3, rfl, h3⟩ := h
 exact ⟨v3, e, h3⟩
theorem GCommand.opens (t : GCommand) : Opens t (fun x : Value => .agg #[.int .i64 t.Kind, .int .i64 t.Variable, .int .i64 t.Length, x]) (fun x => [.rd x t.Value_]) := by
 intro A B w v h
 obtain ⟨v3, e, h3⟩ := GCommand.open h
 refine ⟨v3, e, ?_⟩
 intro f hf
 simp only [List.mem_cons, List.not_mem_nil, or_false] at hf
 rcases hf with rfl
 ·exact ⟨⟨rfl, rfl⟩, h3⟩
theorem GCommand.at_Kind (t : GCommand) : Part 0 t t.Kind := by
 intro A w cs h
 obtain ⟨v3, rfl, h3⟩ := h
 refine ⟨[.int .i64 t.Kind], ?_, rfl⟩
 intro j u hj
 match j, hj with
 | 0, hj => simpa using hj
theorem GCommand.at_Variable (t : GCommand) : Part 1 t t.Variable := by
 intro A w cs h
 obtain ⟨v3, rfl, h3⟩ := h
 refine ⟨[.int .i64 t.Variable], ?_, rfl⟩
 intro j u hj
 match j, hj with
 | 0, hj => simpa using hj
theorem GCommand.at_Length (t : GCommand) : Part 2 t t.Length := by
 intro A w cs h
 obtain ⟨v3, rfl, h3⟩ := h
 refine ⟨[.int .i64 t.Length], ?_, rfl⟩
 intro j u hj
 match j, hj with
 | 0, hj => simpa using hj
theorem GCommand.at_Value_ (t : GCommand) : Part 3 t t.Value_ := by
 intro A w cs h
 obtain ⟨v3, rfl, h3⟩ := h
 refine ⟨[v3], ?_, h3.cell rfl⟩
 intro j u hj
 match j, hj with
 | 0, hj => simpa using hj
theorem GCommand.dw {w : World} {x0 : Int} {x1 : Int} {x2 : Int} {x3 : (List GExpr)} {v3 : Value} {C0 C1 : List Nat} (h3 : Dw w v3 x3 C0 C1) : Dw w (.agg #[.int .i64 x0, .int .i64 x1, .int .i64 x2, v3]) (⟨x0, x1, x2, x3⟩ : GCommand) C0 C1 := by
 intro hn
 obtain ⟨B, a0, nd, mem, sub⟩ := h3 hn
 exact ⟨_, ⟨[.int .i64 x0, .int .i64 x1, .int .i64 x2, v3], rfl, v3, B, rfl, rfl, a0⟩, nd, mem, sub⟩
structure Gendings where
 nodes : Int
 open_ : Int
instance : DecidableEq Gendings := fun a b =>
 if h : a.nodes = b.nodes ∧ a.open_ = b.open_ then isTrue (by cases a; cases b; simp_all) else isFalse (by rintro rfl; simp at h)
instance : Rep Gendings where
 sz := 2
 agg := true
 rdc A w cs t := cs = [.int .i64 t.nodes, .int .i64 t.open_]
 len := by
  intro A w cs t h
  obtain rfl := h
  rfl
 one := by
  intro A w cs t h c hc
  obtain rfl := h
  simp only [List.mem_cons, List.not_mem_nil, or_false] at hc
  rcases hc with rfl | rfl
  ·rfl
  ·rfl
 pos := by decide
 single h := by cases h
 frame := by
  intro A A' w w' cs t h hf
  obtain rfl := h
  exact rfl
 dc _ cs t B := cs = [.int .i64 t.nodes, .int .i64 t.open_] ∧ B = []
 dcf h _ := h
 dcr h _ := h.1
 dlt h b hb := by simp [h.2] at hb
 flat := true
 flt _ h := ⟨h, rfl⟩
theorem Gendings.open {A : Nat → Prop} {w : World} {v : Value} {t : Gendings} (h : Rd A w v t) : v = .agg #[.int .i64 t.nodes, .int .i64 t.open_] := by
 obtain ⟨cs, e, h⟩ := h
 subst h
 exact e
theorem Gendings.opens (t : Gendings) : Opens t (fun _ : Unit => .agg #[.int .i64 t.nodes, .int .i64 t.open_]) (fun _ => []) := by
 intro A B w v h
 exact ⟨(), Gendings.open h, by simp⟩
theorem Gendings.at_nodes (t : Gendings) : Part 0 t t.nodes := by
 intro A w cs h
 obtain rfl := h
 refine ⟨[.int .i64 t.nodes], ?_, rfl⟩
 intro j u hj
 match j, hj with
 | 0, hj => simpa using hj
def Gendings.enc (t : Gendings) : Value := .agg #[.int .i64 t.nodes, .int .i64 t.open_]
theorem Gendings.nb {x : Gendings} : Nb x := nb_flat rfl x
theorem Gendings.zero {A : Nat → Prop} {w : World} : ∃ zc : List Value, (Value.agg #[.int .i64 0, .int .i64 0]).cells = zc.toArray ∧ Rep.rdc A w zc (⟨0, 0⟩ : Gendings) := ⟨[.int .i64 0, .int .i64 0], rfl, rfl⟩
structure Gl00Src where
 code : (List (Ik .u8))
 at_ : Int
 seed : (Ik .u64)
instance : Rep Gl00Src where
 sz := 3
 agg := true
 rdc A w cs t := ∃ v0, cs = [v0, .int .i64 t.at_, .int .u64 t.seed.val] ∧ Rd A w v0 t.code
 len := by
  intro A w cs t h
  obtain ⟨v0, rfl, h0⟩ := h
  rfl
 one := by
  intro A w cs t h c hc
  obtain ⟨v0, rfl, h0⟩ := h
  simp only [List.mem_cons, List.not_mem_nil, or_false] at hc
  rcases hc with rfl | rfl | rfl
  ·exact (Rd.sl h0).oneCell
  ·rfl
  ·rfl
 pos := by decide
 single h := by cases h
 frame := by
  intro A A' w w' cs t h hf
  obtain ⟨v0, rfl, h0⟩ := h
  exact ⟨v0, rfl, h0.frame hf⟩
 dc w cs t B := ∃ v0 B0, cs = [v0, .int .i64 t.at_, .int .u64 t.seed.val] ∧ B = B0 ∧ Dc w v0 t.code B0
 dcf := by
  intro w w' cs t B h hf
  obtain ⟨v0, B0, rfl, rfl, h0⟩ := h
  exact ⟨v0, _, rfl, rfl, h0.frame (fun b hb => hf b (by simp [hb]))⟩
 dcr := by
  intro A w cs t B h hA
  obtain ⟨v0, B0, rfl, rfl, h0⟩ := h
  exact ⟨v0, rfl, h0.rd (fun b hb => hA b (by simp [hb]))⟩
 dlt := by
  intro w cs t B h b hb
  obtain ⟨v0, B0, rfl, rfl, h0⟩ := h
  exact h0.lt b hb
 flat := false
 flt h := by cases h
end Go.Fn
