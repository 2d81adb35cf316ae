/-
  Rows as cells alone; functions that turn an own row round. No condition.
  Functions that store through what they are handed: boxes and rows of the caller's go in, and come back with what they hold then. No condition.
  Arrays of numbers inside boxes: parts of them copied, read and written at an index. No condition.
  Ranges over a map, in whatever order its entries come. No condition.
  Tokens that go over one by one: a row with tokens is read from its begin on, and what is taken out takes its tokens along. No condition.
  Own rows in full, their inner rows too; an element of such a row, opened and closed; tokens that become own rows again. No condition.
  Ranges over functions: the function that is ranged over and the rounds are walked in place. No condition.
  Bytes and parts of texts. No condition.
  Functions that strike elements out of an own row by a function value (slices.DeleteFunc). No condition.
  Interface values of known dynamic types: made, and their methods called. No condition.
  What strings.Builder does with memory: a pointer in a box held against itself, turned to unsafe.Pointer and back; the bytes of an own row as a text. No condition.
  Function values in boxes; calls of closures that store through what they have captured. No condition.
  An inner row of a row of rows, opened and closed; append to such a row; rows with tokens that become own rows in full. No condition.
  Trees of frozen cells behind pointers, as plain data: readings, a new cell that is frozen, a cell that is opened, comparison with nil. No condition.
-/
import Derived.Test.YtlikagofgciflaaMore
import Derived.Maps.RangeRun
import Derived.Lib.Builder
import Derived.Lib.UnsafeStr
import Derived.Lib.Join
import Derived.ArgAppend
import Derived.LaidEqlPtr
namespace Go.Tc
open Go Go.RowKit
structure Vc where
 v : Value
 one : v.oneCell' = true
instance : Rep Vc where
 sz := 1
 agg := false
 rdc _ _ cs x := cs = [x.v]
 len h := by subst h; rfl
 one := by
  intro A w cs x h c hc
  subst h
  simp at hc
  subst hc
  exact x.one
 pos := by decide
 single _ := rfl
 frame h _ := h
 dc _ cs x B := cs = [x.v] ∧ B = []
 dcf h _ := h
 dcr h _ := h.1
 dlt h b hb := by simp [h.2] at hb
 flat := true
 flt _ h := ⟨h, rfl⟩
theorem rev_start {α : Type} [Rep α] {w : World} {e : TypeId} {v : Value} {xs : List α} (h : Ow (fun k => k ∈ v.ownBlock.toList) w e v xs) (hb : ∀ b ∈ v.ownBlock.toList, b < w.heap.size) : SH nowhere (bare w) w [.ow e v xs, rest w v.ownBlock.toList] := by
 have ho : Ctx.owns [Fact.ow e v xs, rest w v.ownBlock.toList] = v.ownBlock.toList := by simp [Ctx.owns, Fact.owns]
 refine ⟨⟨rfl, rfl, rfl, by simp [bare], fun k hk => by simp [bare] at hk⟩, fun k hk => hk.elim, ?_, fun b hb' => ⟨by simp [bare], hb b (by rw [ho] at hb'; exact hb')⟩, by simp [Ctx.toks, Fact.toks], by simp [Ctx.toks, Fact.toks], fun f hf => ?_⟩
 ·rw [ho]
  cases v.ownBlock <;> simp
 ·rw [ho]
  simp only [List.mem_cons, List.not_mem_nil, or_false] at hf
  rcases hf with rfl | rfl
  ·obtain ⟨cells, h1, h2⟩ := h
   refine ⟨cells, h1, RdL.frame (fun k _ hk => ⟨rfl, ?_⟩) _ _ h2⟩
   rintro (hk' | hk')
   ·exact hk'
   ·exact hk hk'
  ·refine ⟨Nat.le_refl _, fun k hk => ⟨?_, hk.1, rfl⟩⟩
   rintro (hk' | hk')
   ·exact hk'
   ·exact hk.2 hk'
section
variable {R : Type} {P : Program} {n : Fr} {A : Nat → Prop} {w0 w w' : World} {Q : R → Exit → Act → World → Prop} {ρ ρ' : Env} {Γ Γ' : Ctx} {E : Option R}
variable {d : Option Nat} {ty : TypeId} {pos : String} {after : Array Edge} {g : Option (Nat × Bool)}
theorem N_ret0 {fn : Func} {G : Type} {v : R → G → Value} {fs : R → G → Ctx} {r : R} {e : Exit} (he : e = .ret ∨ e = .normal) (hres : fn.results = #[])
  (h : ∀ w, SH A w0 w Γ → ∃ x, .tuple #[] = v r x ∧ SH A w0 w (fs r x)) (hds : n.ds = [] := by rfl) : N n A w0 (QBody P fn (Post A w0 v fs)) e ρ Γ (some r) := by
 rintro r' hr a w hs hh
 cases hr
 have key : a.defers = [] ∧ ∃ u, (results fn a.tmps).run P w = .ok u w ∧ Post A w0 v fs r (.returned u) w := by
  refine ⟨hs.defers.trans hds, .tuple #[], ?_, ?_⟩
  ·rw [results_rv, hres]
   simp
  ·obtain ⟨x, e, hx⟩ := h w hh
   exact ⟨x, by rw [e], hx⟩
 rcases he with rfl | rfl <;> exact leaves0 key.1 key.2
end
end Go.Tc
namespace Go.Tc
open Go Go.RowKit
def restL (w : World) (B : List Nat) : List Nat := (List.range w.heap.size).filter (fun k => !(B.contains k))
theorem mem_restL {w : World} {B : List Nat} {k : Nat} : k ∈ restL w B ↔ k < w.heap.size ∧ k ∉ B := by
 simp [restL]
abbrev outs (w : World) (B : List Nat) : Fact := .tkn (.int .i64 0) (0 : Int) (restL w B)
def Fact.loose : Fact → Bool
 | @Fact.ow α _ _ _ _ => Rep.flat α
 | @Fact.od _ _ _ _ _ _ => true
 | @Fact.tkn _ _ _ _ _ => true
 | .bx _ _ _ => true
 | .pr _ => true
 | .inv _ _ => true
 | _ => false
theorem Fact.loose_holds {A A' : Nat → Prop} {B B' : Nat} {w : World} {f : Fact} (hl : f.loose = true) (h : f.holds A B w) (ht : ∀ b ∈ f.toks, ¬ A' b) : f.holds A' B' w := by
 cases f with
 | ow e v xs =>
  obtain ⟨cells, h1, h2⟩ := h
  exact ⟨cells, h1, (DL.flat hl _ _ h2).rd _ _ _ (by simp)⟩
 | od e v xs Bs =>
  exact ⟨h.1, fun b hb => ⟨(h.2 b hb).1, ht b hb⟩⟩
 | tkn v x Bs =>
  exact ⟨h.1, fun b hb => ⟨(h.2 b hb).1, ht b hb⟩⟩
 | bx b t cs => exact h
 | pr p => exact h
 | rd v x => simp [Fact.loose] at hl
 | pt v x => simp [Fact.loose] at hl
 | pa v x => simp [Fact.loose] at hl
 | inv B I => exact h
 | fz w1 C => simp [Fact.loose] at hl
theorem ptr_start {w : World} {Γin : Ctx} (hn : Γin.owns.Nodup) (hb : ∀ b ∈ Γin.owns, b < w.heap.size) (ht : Γin.toks = []) (hl : Γin.all Fact.loose = true) {A : Nat → Prop} {B : Nat} (hh : ∀ f ∈ Γin, f.holds A B w) :
  SH nowhere (bare w) w (Γin ++ [outs w Γin.owns, rest w Γin.owns]) := by
 have ho : Ctx.owns (Γin ++ [outs w Γin.owns, rest w Γin.owns]) = Γin.owns := by simp [Ctx.owns, Fact.owns]
 have hto : Ctx.toks (Γin ++ [outs w Γin.owns, rest w Γin.owns]) = restL w Γin.owns := by
  have : Ctx.toks (Γin ++ [outs w Γin.owns, rest w Γin.owns]) = Γin.toks ++ restL w Γin.owns := by simp [Ctx.toks, Fact.toks]
  rw [this, ht, List.nil_append]
 refine ⟨⟨rfl, rfl, rfl, by simp [bare], fun k hk => by simp [bare] at hk⟩, fun k hk => hk.elim, by rw [ho]; exact hn, fun b h => ⟨by simp [bare], ?_⟩, ?_, fun b _ => by simp [bare], fun f hf => ?_⟩
 ·rw [ho] at h
  exact hb b h
 ·rw [hto]
  exact List.nodup_range.filter _
 ·rw [ho]
  rcases List.mem_append.1 hf with hf | hf
  ·refine Fact.loose_holds (List.all_eq_true.1 hl f hf) (hh f hf) (fun b hbt => ?_)
   have : b ∈ Γin.toks := List.mem_flatMap.2 ⟨f, hf, hbt⟩
   rw [ht] at this
   simp at this
  ·simp only [List.mem_cons, List.not_mem_nil, or_false] at hf
   rcases hf with rfl | rfl
   ·refine ⟨⟨[], ⟨[.int .i64 0], rfl, rfl, rfl⟩, by simp, by simp⟩, fun b hbr => ⟨(mem_restL.1 hbr).1, ?_⟩⟩
    rintro (hk | hk)
    ·exact hk
    ·exact (mem_restL.1 hbr).2 hk
   ·refine ⟨Nat.le_refl _, fun k hk => ⟨?_, hk.1, rfl⟩⟩
    rintro (hk' | hk')
    ·exact hk'.elim
    ·exact hk.2 hk'
def PHanded (w : World) (Γin : Ctx) : Prop := Γin.owns.Nodup ∧ (∀ b ∈ Γin.owns, b < w.heap.size) ∧ Γin.toks = [] ∧ Γin.all Fact.loose = true ∧ ∀ f ∈ Γin, f.holds (fun _ => False) 0 w
theorem SH.begin {w : World} {Γin : Ctx} {B : List Nat} (hB : Γin.owns = B) (h : PHanded w Γin) : SH nowhere (bare w) w (Γin ++ [outs w B, rest w B]) := by
 subst hB
 exact ptr_start h.1 h.2.1 h.2.2.1 h.2.2.2.1 h.2.2.2.2
theorem SH.cons_apart {α : Type} [Rep α] {w0 w : World} {Γ : Ctx} {B : List Nat} {v : Value} {x : α} (h : SH nowhere w0 w Γ) (hB : Γ.owns = B) (hr : Rd (fun k => k ∈ B) w v x) : SH nowhere w0 w (.rd v x :: Γ) :=
 h.cons_rd (by
  rw [hB]
  exact hr.weak fun k hk => hk.elim (fun h => h.elim) id)
def PtrCon (P : Program) (f : FuncId) (vs : List Value) (w : World) (B : List Nat) {G : Type} (v : G → Value) (fs : G → Ctx) : Prop :=
 Calls P f vs.toArray w fun e w' => ∃ x, e = .returned (v x) ∧ SH nowhere (bare w) w' (fs x ++ [outs w B, rest w B])
section
variable {R : Type} {P : Program} {n : Fr} {A : Nat → Prop} {w0 w w' : World} {Q : R → Exit → Act → World → Prop} {ρ ρ' : Env} {Γ Γ' Δ : Ctx} {E : Option R} {B : List Nat}
variable {d : Option Nat} {ty : TypeId} {pos : String} {after : Array Edge} {g : Option (Nat × Bool)}
theorem ptr_back {A' : Nat → Prop} {w1 : World} (k : SH A' w1 w' (Δ ++ [outs w B, rest w B])) (hw : w1 = bare w) (hA' : A' = nowhere) :
  Grow w w' B ∧ (∀ b ∈ Δ.owns, b ∈ B ∨ w.heap.size ≤ b) ∧ (∀ b ∈ Δ.toks, b ∈ B ∨ w.heap.size ≤ b) ∧ Δ.owns.Nodup ∧ Δ.toks.Nodup ∧ (∀ b ∈ Δ.owns, b < w'.heap.size) ∧ ∀ b ∈ Δ.toks, b < w'.heap.size ∧ b ∉ Δ.owns := by
 subst hw hA'
 have ho : Ctx.owns (Δ ++ [outs w B, rest w B]) = Δ.owns := by simp [Ctx.owns, Fact.owns]
 have hto : Ctx.toks (Δ ++ [outs w B, rest w B]) = Δ.toks ++ restL w B := by simp [Ctx.toks, Fact.toks]
 have h1 := k.get Δ.length (f := outs w B) (by simp)
 have h2 := k.get (Δ.length + 1) (f := rest w B) (by simp)
 rw [ho] at h1 h2
 have htn := k.tnd
 rw [hto, List.nodup_append] at htn
 refine ⟨⟨k.below.os, k.below.tape, k.below.output, h2.1, fun j hj hb => (h2.2 j ⟨hj, hb⟩).2.2⟩, fun b hb => ?_, fun b hb => ?_, by have := k.nd; rw [ho] at this; exact this, htn.1, fun b hb => (k.ge b (by rw [ho]; exact hb)).2, fun b hb => ?_⟩
 ·refine Classical.byContradiction fun hn => ?_
  exact (h2.2 b ⟨by omega, fun h => hn (.inl h)⟩).1 (.inr hb)
 ·refine Classical.byContradiction fun hn => ?_
  exact htn.2.2 b hb b (mem_restL.2 ⟨by omega, fun h => hn (.inl h)⟩) rfl
 ·have := k.tlt b (by rw [hto]; simp [hb])
  rw [ho] at this
  exact this
theorem SH.ptr_join (h : SH A w0 w Γ) (is js : List Nat) (hn : ndup (js ++ is) = true) (hB : (Tc.sel is Γ).owns = B) (k : SH nowhere (bare w) w' (Δ ++ [outs w B, rest w B])) (hl : Δ.all Fact.loose = true) :
  SH A w0 w' (Δ ++ Tc.sel js Γ) ∧ Grow w w' B ∧ OwnNew Γ (Δ ++ Tc.sel js Γ) w := by
 obtain ⟨hg, hon, htn, hnd, htd, hlt, htl⟩ := ptr_back k rfl rfl
 have hp := h.persist js is hn hB hg
 have hBo : ∀ b ∈ B, b ∈ Γ.owns := fun b hb => by
  rw [← hB] at hb
  obtain ⟨i, _, f, hf, hbf⟩ := sel_owns is Γ b hb
  exact List.mem_flatMap.2 ⟨f, List.mem_of_getElem? hf, hbf⟩
 have hso : ∀ b ∈ (Tc.sel js Γ).owns, b ∈ Γ.owns := fun b hb => by
  obtain ⟨m, _, f, hf, hbf⟩ := sel_owns js Γ b hb
  exact List.mem_flatMap.2 ⟨f, List.mem_of_getElem? hf, hbf⟩
 have hne : ∀ b ∈ (Tc.sel js Γ).owns, b ∉ B := fun b hb hbB => by
  rw [← hB] at hbB
  obtain ⟨i, hi, f, hf, hbf⟩ := sel_owns js Γ b hb
  obtain ⟨j, hj, f', hf', hbf'⟩ := sel_owns is Γ b hbB
  exact nodup_two h.nd hf hf' ((ndup_append js is hn).2 i hi j hj) hbf hbf'
 have ho : Ctx.owns (Δ ++ Tc.sel js Γ) = Δ.owns ++ (Tc.sel js Γ).owns := by simp [Ctx.owns]
 have hto : Ctx.toks (Δ ++ Tc.sel js Γ) = Δ.toks ++ (Tc.sel js Γ).toks := by simp [Ctx.toks]
 have hge : ∀ b, b ∈ B ∨ w.heap.size ≤ b → w0.heap.size ≤ b := fun b hb => by
  rcases hb with hb | hb
  ·exact (h.ge b (hBo b hb)).1
  ·exact Nat.le_trans h.lt hb
 have hst : ∀ b ∈ (Tc.sel js Γ).toks, b ∈ Γ.toks := fun b hb => sel_toks js Γ b hb
 refine ⟨⟨hp.below, h.av, ?_, ?_, ?_, ?_, ?_⟩, hg, ?_⟩
 ·rw [ho, List.nodup_append]
  refine ⟨hnd, hp.nd, fun a ha b hb e => ?_⟩
  subst e
  rcases hon a ha with h1 | h1
  ·exact hne a hb h1
  ·have := (h.ge a (hso a hb)).2; omega
 ·intro b hb
  rw [ho] at hb
  rcases List.mem_append.1 hb with hb | hb
  ·exact ⟨hge b (hon b hb), hlt b hb⟩
  ·exact hp.ge b hb
 ·rw [hto, List.nodup_append]
  refine ⟨htd, hp.tnd, fun a ha b hb e => ?_⟩
  subst e
  rcases htn a ha with h1 | h1
  ·exact (h.tlt a (hst a hb)).2 (hBo a h1)
  ·have := (h.tlt a (hst a hb)).1; omega
 ·intro b hb
  rw [hto] at hb
  rcases List.mem_append.1 hb with hb | hb
  ·exact hge b (htn b hb)
  ·exact hp.tge b hb
 ·intro f hf
  rcases List.mem_append.1 hf with hf | hf
  ·have hk := k.all f (List.mem_append_left _ hf)
   refine Fact.loose_holds (List.all_eq_true.1 hl f hf) hk (fun b hbt => ?_)
   have hbT : b ∈ Δ.toks := List.mem_flatMap.2 ⟨f, hf, hbt⟩
   rintro (hk' | hk')
   ·have h1 := h.av b hk'
    have h2 := hge b (htn b hbT)
    omega
   ·rw [ho] at hk'
    rcases List.mem_append.1 hk' with hk' | hk'
    ·exact (htl b hbT).2 hk'
    ·rcases htn b hbT with h1 | h1
     ·exact hne b hk' h1
     ·have := (h.ge b (hso b hk')).2; omega
  ·obtain ⟨m, hm, hmf⟩ := sel_mem js Γ f hf
   refine Fact.frame hg.size (h.all f (List.mem_of_getElem? hmf)) (fun b hb => hg.block b (h.ge b (List.mem_flatMap.2 ⟨f, List.mem_of_getElem? hmf, hb⟩)).2 (hne b (List.mem_flatMap.2 ⟨f, hf, hb⟩))) (fun j hj => hg.block j (Nat.lt_of_lt_of_le hj h.lt) (fun hm => absurd (h.ge j (hBo j hm)).1 (by omega))) (fun j hj ha => ⟨hg.block j hj (fun hm => ha (.inr (hBo j hm))), ?_⟩)
   rintro (hj' | hj')
   ·exact ha (.inl hj')
   ·rw [ho] at hj'
    rcases List.mem_append.1 hj' with hj' | hj'
    ·rcases hon j hj' with h1 | h1
     ·exact ha (.inr (hBo j h1))
     ·omega
    ·exact ha (.inr (hso j hj'))
 ·intro b hb
  rw [ho] at hb
  rcases List.mem_append.1 hb with hb | hb
  ·rcases hon b hb with h1 | h1
   ·exact .inl (hBo b h1)
   ·exact .inr h1
  ·exact .inl (hso b hb)
theorem SH.handed {Γin : Ctx} (h : SH A w0 w Γ) (is : List Nat) (hn : ndup is = true) (hin : Tc.sel is Γ = Γin) (hl : Γin.all Fact.loose = true) (ht : Γin.all (fun f => f.toks.isEmpty) = true) :
  PHanded w Γin := by
 subst hin
 refine ⟨sel_nodup is Γ hn h.nd, fun b hb => ?_, ?_, hl, fun f hf => ?_⟩
 ·obtain ⟨m, _, f, hf, hbf⟩ := sel_owns is Γ b hb
  exact (h.ge b (List.mem_flatMap.2 ⟨f, List.mem_of_getElem? hf, hbf⟩)).2
 ·simp only [Ctx.toks, List.flatMap_eq_nil_iff]
  intro f hf
  simpa using List.all_eq_true.1 ht f hf
 ·obtain ⟨m, _, hmf⟩ := sel_mem is Γ f hf
  exact Fact.loose_holds (List.all_eq_true.1 hl f hf) (h.all f (List.mem_of_getElem? hmf)) (fun _ _ h => h)
theorem SH.apart {α : Type} [Rep α] {v : Value} {x : α} (h : SH A w0 w Γ) (is : List Nat) (hB : (Tc.sel is Γ).owns = B) (hr : Rd (fun k => A k ∨ k ∈ Γ.owns) w v x) : Rd (fun k => k ∈ B) w v x := by
 refine hr.weak fun k hk => .inr ?_
 rw [← hB] at hk
 obtain ⟨i, _, f, hf, hbf⟩ := sel_owns is Γ k hk
 exact List.mem_flatMap.2 ⟨f, List.mem_of_getElem? hf, hbf⟩
theorem PtrCon_of {k : Nat} {f : FuncId} {fn : Func} {body : Code} {vs : List Value} {G : Type} {v : R → G → Value} {fs : R → G → Ctx} {r : R}
  (hf : P.funcs[f]? = some fn) (hb : fn.body = some body) (hn : fn.ntmps = k) (hl : Nat.ble vs.length k = true) (hΓ : SH nowhere (bare w) w Γ) (hρ : enum 0 vs = ρ)
  (h : J P ⟨k, [], none⟩ nowhere (bare w) body (QBody P fn (Post nowhere (bare w) v (fun r x => fs r x ++ [outs w B, rest w B]))) ρ Γ E) (hE : E = some r) : PtrCon P f vs w B (v r) (fs r) :=
 ConM_of hf hb hn hl hΓ hρ h hE
def CaT (P : Program) (A : Nat → Prop) (w0 : World) (Γ : Ctx) (f : FuncId) (vs : List Value) {G : Type} (v : G → Value) (Γ' : G → Ctx) (T : List Nat) : Prop :=
 ∀ w, SH A w0 w Γ → Calls P f vs.toArray w fun e w' => ∃ x, e = .returned (v x) ∧ SH A w0 w' (Γ' x) ∧ Grow w w' T ∧ OwnNew Γ (Γ' x) w
theorem CaT_of {f : FuncId} {vs : List Value} {G : Type} {v : G → Value} {fs : G → Ctx} (is js : List Nat) (hn : ndup (js ++ is) = true) (hB : (sel is Γ).owns = B) (hl : ∀ x, (fs x).all Fact.loose = true) (h : ∀ w, SH A w0 w Γ → PtrCon P f vs w B v fs) : CaT P A w0 Γ f vs v (fun x => fs x ++ sel js Γ) B :=
 fun w hh => (h w hh).mono fun _ _ ⟨x, he, hk⟩ => ⟨x, he, hh.ptr_join is js hn hB hk (hl x)⟩
theorem JL_callT {ops : Array Oper} {rest : List Oper} {d : Nat} {f : FuncId} {args : List Operand} {ats : Array TypeId} {vs : List Value} {G : Type} {v : G → Value} {Γ' : G → Ctx} {T : List Nat}
  (hw : Wants n ρ ops ⟨some d, .call ⟨.value (.func f), args.toArray, ats⟩, ty, pos, after, g⟩) (hd : Nat.blt d n.n = true)
  (hf : ∀ args w, (callFunc f args).run P w = .ok (.enter f args) w) (hargs : evL ρ args = some vs) (hC : CaT P A w0 Γ f vs v Γ' T)
  (h : ∀ x, JL P n A w0 ops rest Q ((d, v x) :: ρ) (Γ' x) E) : JL P n A w0 ops (⟨some d, .call ⟨.value (.func f), args.toArray, ats⟩, ty, pos, after, g⟩ :: rest) Q ρ Γ E := by
 intro r hr a w hs hh
 refine wpList_step fun K hK => ?_
 rw [hw a hs]
 simp only [if_true]
 unfold Oper.wp
 rw [run_mark hs hf hargs, Oper.upon_enter]
 refine (hC w hh).mono ?_
 rintro e w' ⟨x, rfl, hh', _⟩
 exact hK _ _ (h x r hr _ _ (hs.put (by simpa [Nat.blt_eq] using hd)) hh')
end
end Go.Tc
namespace Go.Tc
open Go Go.RowKit
section
variable {R : Type} {P : Program} {n : Fr} {A : Nat → Prop} {w0 : World} {Q : R → Exit → Act → World → Prop} {ρ ρ' : Env} {Γ Γ' : Ctx} {E : Option R}
variable {d : Option Nat} {ty : TypeId} {pos : String} {after : Array Edge} {g : Option (Nat × Bool)}
end
section
variable {P : Program} {w : World}
end
end Go.Tc
namespace Go.Tc
open Go Go.RowKit
section
variable {α S R0 : Type}
open Classical in
end
section
variable {R R0 S G : Type} {P : Program} {n : Fr} {A : Nat → Prop} {w0 w w' : World} {Q : R → Exit → Act → World → Prop} {ρ ρ' : Env} {Γ Γ' : Ctx} {E : Option R}
variable {ty : TypeId} {pos : String} {after : Array Edge} {g : Option (Nat × Bool)}
variable {κ ν : Type} {enc : κ → Value} {venc : ν → Value}
def Ents (enc : κ → Value) (venc : ν → Value) (m : List (κ × ν)) (es : Array MapEntry) (clock : Nat) : Prop :=
 es.toList.map (fun e => (e.key, e.val)) = m.map (fun p => (enc p.1, venc p.2)) ∧ Stamps es clock
theorem Ents.len {m : List (κ × ν)} {es : Array MapEntry} {clock : Nat} (h : Ents enc venc m es clock) : es.toList.length = m.length := by
 have := congrArg List.length h.1
 simpa using this
end
end Go.Tc
namespace Go.Tc
open Go Go.RowKit
section
variable {α : Type}
theorem tks_append (l m : List (Tk α)) : tks (l ++ m) = tks l ++ tks m := by simp [tks]
def tlB (ts : List (Tk α)) (k : Int) : List Nat := tks (ts.drop k.toNat)
theorem tks_drop (ts : List (Tk α)) (n : Nat) : (tks (ts.drop n)).Sublist (tks ts) := by
 have : tks ts = tks (ts.take n) ++ tks (ts.drop n) := by rw [← tks_append, List.take_append_drop]
 rw [this]
 exact List.sublist_append_right _ _
end
section
variable {R : Type} {P : Program} {n : Fr} {A : Nat → Prop} {w0 w w' : World} {Q : R → Exit → Act → World → Prop} {ρ ρ' : Env} {Γ Γ' : Ctx} {E : Option R}
variable {d : Option Nat} {ty : TypeId} {pos : String} {after : Array Edge} {g : Option (Nat × Bool)}
abbrev hld (B : List Nat) : Fact := .tkn (.int .i64 0) (0 : Int) B
theorem SH.tail {α : Type} [Rep α] {e : TypeId} {v : Value} {xs : List α} {B : List Nat} (h : SH A w0 w Γ) (i : Nat) (hi : Γ[i]? = some (.od e v xs B)) (k : Int) :
  ∃ ts : List (Tk α), dats ts = xs ∧ ts.length ≤ maxLen ∧ SH A w0 w (hld (tlB ts k) :: .rd v ts :: Γ.set i (.rd v xs)) := by
 have hli := (List.getElem?_eq_some_iff.1 hi).1
 obtain ⟨⟨cells, B0, ho1, _, _, _⟩, h3⟩ := h.get i hi
 obtain ⟨ts, e1, e2, e4, h1⟩ := h.od_down i hi
 have hlen : ts.length ≤ maxLen := by
  rw [← dats_length, e1]
  rcases ho1.2 with ⟨_, h0⟩ | ⟨_, cap, _, _, _, _, hc, hm, _, _⟩
  ·omega
  ·omega
 have h5 := (h.od_ow i hi).freeze i (get_set hli)
 have h6 := h1.freeze i (get_set hli)
 rw [List.set_set] at h5 h6
 have ho : ∀ {β : Type} [Rep β] (y : β), ∃ l1 l2, Γ.owns = l1 ++ v.ownBlock.toList ++ l2 ∧ Ctx.owns (Γ.set i (.rd v y)) = l1 ++ [] ++ l2 := fun {β} _ y => owns_set (f' := .rd v y) hi
 have hoo : Ctx.owns (Γ.set i (.rd v ts)) = Ctx.owns (Γ.set i (.rd v xs)) := by
  have a := owns_set_eq (Γ := Γ.set i (.rd v ts)) (f := .rd v ts) (f' := .rd v xs) (get_set hli) rfl
  rw [List.set_set] at a
  exact a.symm
 have hrd := h6.get i (get_set hli)
 have h7 : SH A w0 w (.rd v ts :: Γ.set i (.rd v xs)) := h5.cons_rd (by rw [← hoo]; exact hrd)
 have hsub : ∀ b ∈ tlB ts k, b ∈ B := fun b hb => e4 b ((tks_drop ts _).subset hb)
 have hBt : ∀ b ∈ B, b ∈ Γ.toks := fun c hc => List.mem_flatMap.2 ⟨_, List.mem_of_getElem? hi, hc⟩
 have hsubo : ∀ b ∈ Ctx.owns (Γ.set i (.rd v xs)), b ∈ Γ.owns := fun b hb => by
  obtain ⟨l1, l2, a, c⟩ := ho xs
  rw [c] at hb
  rw [a]
  simp only [List.append_nil, List.mem_append] at hb ⊢
  rcases hb with hb | hb
  ·exact .inl (.inl hb)
  ·exact .inr hb
 refine ⟨ts, e1, hlen, ?_⟩
 refine h7.consT (Grow.refl w []) (by simp [Fact.owns]) (by simp [Fact.owns]) ⟨⟨[], ⟨[.int .i64 0], rfl, rfl, rfl⟩, by simp, by simp⟩, fun b hb => ⟨(h3 b (hsub b hb)).1, ?_⟩⟩ ?_ (fun b hb => h.tge b (hBt b (hsub b hb)))
 ·have h8 : Ctx.owns (hld (tlB ts k) :: .rd v ts :: Γ.set i (.rd v xs)) = Ctx.owns (Γ.set i (.rd v xs)) := by simp [Ctx.owns, Fact.owns]
  rw [h8]
  rintro (hk | hk)
  ·exact (h3 b (hsub b hb)).2 (.inl hk)
  ·exact (h3 b (hsub b hb)).2 (.inr (hsubo b hk))
 ·show (tlB ts k ++ Ctx.toks (.rd v ts :: Γ.set i (.rd v xs))).Nodup
  have h9 : Ctx.toks (.rd v ts :: Γ.set i (.rd v xs)) = Ctx.toks (Γ.set i (.rd v xs)) := by simp [Ctx.toks, Fact.toks]
  rw [h9]
  refine ((toks_perm (f' := .rd v xs) hi).append_left _).nodup_iff.2 ?_
  have p4 := (toks_perm0 hi).nodup_iff.1 h.tnd
  simp only [Fact.toks, List.nil_append] at p4 ⊢
  rw [List.nodup_append] at p4 ⊢
  exact ⟨e2.sublist (tks_drop ts _), p4.2.1, fun a ha b hb e => p4.2.2 a (hsub a ha) b hb e⟩
end
end Go.Tc
namespace Go.Tc
open Go Go.RowKit
section
variable {A : Nat → Prop} {w0 w w' : World} {Γ Γ' Δ : Ctx} {B : List Nat}
end
section
variable {R : Type} {P : Program} {n : Fr} {A : Nat → Prop} {w0 w w' : World} {Q : R → Exit → Act → World → Prop} {ρ ρ' : Env} {Γ Γ' : Ctx} {E : Option R} {B : List Nat}
variable {d : Option Nat} {ty : TypeId} {pos : String} {after : Array Edge} {g : Option (Nat × Bool)}
end
end Go.Tc
namespace Go.Tc
open Go Go.RowKit
section
variable {R : Type} {P : Program} {n nc : Fr} {A : Nat → Prop} {w0 w w' : World} {Q : R → Exit → Act → World → Prop} {ρ ρ' ρc : Env} {Γ Γ' : Ctx} {E : Option R}
variable {d : Option Nat} {ty : TypeId} {pos : String} {after : Array Edge} {g : Option (Nat × Bool)}
end
end Go.Tc
namespace Go.Tc
open Go Go.RowKit
def bidx (s : ByteArray) (i : Int) : Option Int := if 0 ≤ i then (s[i.toNat]?).map fun b => (b.toNat : Int) else none
section
variable {R : Type} {P : Program} {n : Fr} {A : Nat → Prop} {w0 w : World} {Q : R → Exit → Act → World → Prop} {ρ ρ' : Env} {Γ Γ' : Ctx} {E : Option R}
variable {d : Option Nat} {ty : TypeId} {pos : String} {after : Array Edge} {g : Option (Nat × Bool)}
theorem ex_index_str {x ix : Operand} {t : TypeId} {s : ByteArray} {k : IntKind} {j y : Int} (ht : P.underlying t = some .string) (hx : ev ρ x = some (.string s)) (hix : ev ρ ix = some (.int k j)) (hy : bidx s j = some y) :
  Ex P n A w0 ρ Γ ⟨d, .index t x ix, ty, pos, after, g⟩ (.int .u8 y) := by
 intro a w hs hh
 unfold bidx at hy
 split at hy
 ·rename_i h0
  cases hb : s[j.toNat]? with
  | none => rw [hb] at hy; cases hy
  | some b =>
   rw [hb] at hy
   simp only [Option.map_some, Option.some.injEq] at hy
   subst hy
   simp [execOp, hs.eval hx, hs.eval hix, Instr.index, asIntOf, run_underlying ht, h0, hb]
 ·cases hy
end
end Go.Tc
namespace Go.Tc
open Go Go.RowKit
section
variable {R : Type} {P : Program} {n : Fr} {A : Nat → Prop} {w0 w w1 w' : World} {Q : R → Exit → Act → World → Prop} {ρ ρ' : Env} {Γ Γ' : Ctx} {E : Option R}
variable {d : Option Nat} {ty : TypeId} {pos : String} {after : Array Edge} {g : Option (Nat × Bool)}
end
section
variable {R : Type} {P : Program} {n : Fr} {A : Nat → Prop} {w0 w1 : World} {Q : R → Exit → Act → World → Prop} {ρ ρ' : Env} {Γ Γ' Γ1 : Ctx} {E : Option R} {ops : Array Oper} {O : List Nat} {fuel : Nat} {listed : Array Bool}
end
end Go.Tc
namespace Go.Tc
open Go Go.RowKit
section
variable {R : Type} {P : Program} {n : Fr} {A : Nat → Prop} {w0 w w1 w' : World} {Q : R → Exit → Act → World → Prop} {ρ ρ' : Env} {Γ Γ' : Ctx} {E : Option R}
variable {d : Option Nat} {ty : TypeId} {pos : String} {after : Array Edge} {g : Option (Nat × Bool)}
end
end Go.Tc
namespace Go.Tc
open Go Go.RowKit
section
variable {R : Type} {P : Program} {n : Fr} {A : Nat → Prop} {w0 w w1 w' : World} {Q : R → Exit → Act → World → Prop} {ρ ρ' : Env} {Γ Γ' : Ctx} {E : Option R}
variable {d : Option Nat} {ty : TypeId} {pos : String} {after : Array Edge} {g : Option (Nat × Bool)}
theorem run_eq_ptr {tp te : TypeId} (hp : P.underlying tp = some (.pointer te)) (a : Option Addr) (w : World) : (Op.equal tp (.pointer a) (.pointer none)).run P w = .ok a.isNone w := by
 have h : ∀ d : Nat, (Op.equalIn (d + 1) tp (.pointer a) (.pointer none)).run P w = .ok a.isNone w := fun d => by
  cases a <;> simp [Op.equalIn, run_underlying hp]
 simp [Op.equal, Op.maxDepth, h 9999]
theorem ex_eq_nil {x y : Operand} {t te u : TypeId} {a : Option Addr} (ht : P.underlying t = some (.pointer te)) (hx : ev ρ x = some (.pointer a)) (hy : ev ρ y = some (.pointer none)) : Ex P n A w0 ρ Γ ⟨d, .binOp .eql t x y u, ty, pos, after, g⟩ (.bool a.isNone) := by
 intro b w hs hh
 simp [execOp, hs.eval hx, hs.eval hy, eqGuard, binOp, run_eq_ptr ht]
end
end Go.Tc
namespace Go.Tc
open Go
theorem cv_fn {f : Fn} {a c : Array Value} : CV (.func f a c) [.func f a c] := ⟨rfl, by simp [Value.oneCell']⟩
section
variable {R : Type} {P : Program} {n : Fr} {A : Nat → Prop} {w0 w w' : World} {Q : R → Exit → Act → World → Prop} {ρ ρ' : Env} {Γ Γ' Δ : Ctx} {E : Option R} {B : List Nat}
variable {d : Option Nat} {ty : TypeId} {pos : String} {after : Array Edge} {g : Option (Nat × Bool)}
theorem JL_callvT {ops : Array Oper} {rest : List Oper} {d : Nat} {o : Operand} {f : FuncId} {args : List Operand} {ats : Array TypeId} {vs caps : List Value} {G : Type} {v : G → Value} {Γ' : G → Ctx} {T : List Nat}
  (hw : Wants n ρ ops ⟨some d, .call ⟨.value o, args.toArray, ats⟩, ty, pos, after, g⟩) (hd : Nat.blt d n.n = true)
  (hf : ∀ args w, (callFunc f args).run P w = .ok (.enter f args) w) (ho : ev ρ o = some (.func (.func f) #[] caps.toArray)) (hargs : evL ρ args = some vs) (hC : CaT P A w0 Γ f (vs ++ caps) v Γ' T)
  (h : ∀ x, JL P n A w0 ops rest Q ((d, v x) :: ρ) (Γ' x) E) : JL P n A w0 ops (⟨some d, .call ⟨.value o, args.toArray, ats⟩, ty, pos, after, g⟩ :: rest) Q ρ Γ E := by
 intro r hr a w hs hh
 refine wpList_step fun K hK => ?_
 rw [hw a hs]
 simp only [if_true]
 unfold Oper.wp
 rw [run_callv hs hf ho hargs, Oper.upon_enter]
 refine (hC w hh).mono ?_
 rintro e w' ⟨x, rfl, hh', _⟩
 exact hK _ _ (h x r hr _ _ (hs.put (by simpa [Nat.blt_eq] using hd)) hh')
end
end Go.Tc
namespace Go.Tc
open Go Go.RowKit
section
variable {A : Nat → Prop} {w0 w w' : World} {Γ Γ' Δ : Ctx} {B : List Nat}
end
section
variable {R : Type} {P : Program} {n : Fr} {A : Nat → Prop} {w0 w w' : World} {Q : R → Exit → Act → World → Prop} {ρ ρ' : Env} {Γ Γ' : Ctx} {E : Option R} {B : List Nat}
variable {d : Option Nat} {ty : TypeId} {pos : String} {after : Array Edge} {g : Option (Nat × Bool)}
end
end Go.Tc
namespace Go.Tc
open Go Go.RowKit
inductive Tre where
 | nil
 | node (h t : Tre) (n : Int)
structure Gtree where
 head : Tre
 tail : Tre
 nodes : Int
def Tre.cells : Tre → Option Gtree
 | .nil => none
 | .node h t n => some ⟨h, t, n⟩
def Tre.isNil : Tre → Bool
 | .nil => true
 | .node _ _ _ => false
def Plain (w : World) (b : Nat) : Prop := ∃ arr t, w.heap[b]? = some (.cells arr t (0, 0))
theorem Plain.lt {w : World} {b : Nat} (h : Plain w b) : b < w.heap.size := by
 obtain ⟨_, _, h⟩ := h
 exact (Array.getElem?_eq_some_iff.1 h).1
theorem Plain.frame {w w' : World} {b : Nat} (h : Plain w b) (e : w'.heap[b]? = w.heap[b]?) : Plain w' b := by
 obtain ⟨arr, t, h⟩ := h
 exact ⟨arr, t, e.trans h⟩
def RdTr (A : Nat → Prop) (w : World) : Value → Tre → Prop
 | v, .nil => v = .pointer none
 | v, .node h t n => ∃ b p q, v = .pointer (some ⟨b, 0, none⟩) ∧ ¬ A b ∧ Plain w b ∧ RowAt w b 0 [p, q, .int .i64 n] ∧ RdTr A w p h ∧ RdTr A w q t
theorem RdTr.frame {A A' : Nat → Prop} {w w' : World} (hf : ∀ k, k < w.heap.size → ¬ A k → w'.heap[k]? = w.heap[k]? ∧ ¬ A' k) : ∀ {x : Tre} {v : Value}, RdTr A w v x → RdTr A' w' v x
 | .nil, _, h => h
 | .node _ _ _, _, ⟨b, p, q, e, h1, h2, h3, h4, h5⟩ => by
  obtain ⟨e1, e2⟩ := hf b h2.lt h1
  exact ⟨b, p, q, e, e2, h2.frame e1, h3.frame e1, RdTr.frame hf h4, RdTr.frame hf h5⟩
theorem RdTr.one {A : Nat → Prop} {w : World} : ∀ {x : Tre} {v : Value}, RdTr A w v x → v.oneCell' = true
 | .nil, _, h => by obtain rfl := h; rfl
 | .node _ _ _, _, ⟨_, _, _, e, _⟩ => by obtain rfl := e; rfl
def DTr (w : World) : Value → Tre → List Nat → Prop
 | v, .nil, B => v = .pointer none ∧ B = []
 | v, .node h t n, B => ∃ b p q B1 B2, v = .pointer (some ⟨b, 0, none⟩) ∧ Plain w b ∧ RowAt w b 0 [p, q, .int .i64 n] ∧ DTr w p h B1 ∧ DTr w q t B2 ∧ B = b :: (B1 ++ B2)
theorem DTr.frame {w w' : World} : ∀ {x : Tre} {v : Value} {B : List Nat}, DTr w v x B → (∀ b ∈ B, w'.heap[b]? = w.heap[b]?) → DTr w' v x B
 | .nil, _, _, h, _ => h
 | .node _ _ _, _, _, ⟨b, p, q, B1, B2, e, h2, h3, h4, h5, hB⟩, hf => by
  subst hB
  have e1 := hf b (by simp)
  exact ⟨b, p, q, B1, B2, e, h2.frame e1, h3.frame e1, h4.frame fun k hk => hf k (by simp [hk]), h5.frame fun k hk => hf k (by simp [hk]), rfl⟩
theorem DTr.rd {A : Nat → Prop} {w : World} : ∀ {x : Tre} {v : Value} {B : List Nat}, DTr w v x B → (∀ b ∈ B, ¬ A b) → RdTr A w v x
 | .nil, _, _, h, _ => h.1
 | .node _ _ _, _, _, ⟨b, p, q, B1, B2, e, h2, h3, h4, h5, hB⟩, hA => by
  subst hB
  exact ⟨b, p, q, e, hA b (by simp), h2, h3, h4.rd fun k hk => hA k (by simp [hk]), h5.rd fun k hk => hA k (by simp [hk])⟩
theorem DTr.lt {w : World} : ∀ {x : Tre} {v : Value} {B : List Nat}, DTr w v x B → ∀ b ∈ B, b < w.heap.size
 | .nil, _, _, h, b, hb => by simp [h.2] at hb
 | .node _ _ _, _, _, ⟨b, p, q, B1, B2, e, h2, h3, h4, h5, hB⟩, k, hk => by
  subst hB
  rcases List.mem_cons.1 hk with rfl | hk
  ·exact h2.lt
  ·rcases List.mem_append.1 hk with hk | hk
   ·exact h4.lt k hk
   ·exact h5.lt k hk
instance : Rep Tre where
 sz := 1
 agg := false
 rdc A w cs x := ∃ v, cs = [v] ∧ RdTr A w v x
 len h := by obtain ⟨v, rfl, _⟩ := h; rfl
 one h := by
  obtain ⟨v, rfl, h⟩ := h
  simpa using h.one
 pos := by decide
 single _ := rfl
 frame h hf := by
  obtain ⟨v, e, h⟩ := h
  exact ⟨v, e, h.frame hf⟩
 dc w cs x B := ∃ v, cs = [v] ∧ DTr w v x B
 dcf h hf := by
  obtain ⟨v, e, h⟩ := h
  exact ⟨v, e, h.frame hf⟩
 dcr h hA := by
  obtain ⟨v, e, h⟩ := h
  exact ⟨v, e, h.rd hA⟩
 dlt h := by
  obtain ⟨v, _, h⟩ := h
  exact h.lt
 flat := false
 flt h := by cases h
theorem Rd.tr {A : Nat → Prop} {w : World} {v : Value} {x : Tre} (h : Rd A w v x) : RdTr A w v x := by
 obtain ⟨cs, rfl, u, rfl, h⟩ := h
 exact h
theorem Rd.mk_tr {A : Nat → Prop} {w : World} {v : Value} {x : Tre} (h : RdTr A w v x) : Rd A w v x := ⟨[v], rfl, v, rfl, h⟩
theorem rdTrNil {A : Nat → Prop} {w : World} : Rd A w (.pointer none) Tre.nil := Rd.mk_tr rfl
theorem opens_tr (y : Tre) : Opens y (fun v : Value => v) (fun v => [.rd v y]) := fun _ _ _ v h => ⟨v, rfl, by simpa [Fact.owns, Fact.toks, Fact.holds] using h⟩
instance : Rep Gtree where
 sz := 3
 agg := true
 rdc A w cs t := ∃ v1 v2, cs = [v1, v2, .int .i64 t.nodes] ∧ Rd A w v1 t.head ∧ Rd A w v2 t.tail
 len := by
  intro A w cs t h
  obtain ⟨v1, v2, rfl, h1, h2⟩ := h
  rfl
 one := by
  intro A w cs t h c hc
  obtain ⟨v1, v2, rfl, h1, h2⟩ := h
  simp only [List.mem_cons, List.not_mem_nil, or_false] at hc
  rcases hc with rfl | rfl | rfl
  ·exact h1.tr.one
  ·exact h2.tr.one
  ·rfl
 pos := by decide
 single h := by cases h
 frame := by
  intro A A' w w' cs t h hf
  obtain ⟨v1, v2, rfl, h1, h2⟩ := h
  exact ⟨v1, v2, rfl, h1.frame hf, h2.frame hf⟩
 dc w cs t B := ∃ v1 v2 B1 B2, cs = [v1, v2, .int .i64 t.nodes] ∧ B = B1 ++ B2 ∧ Dc w v1 t.head B1 ∧ Dc w v2 t.tail B2
 dcf := by
  intro w w' cs t B h hf
  obtain ⟨v1, v2, B1, B2, rfl, rfl, h1, h2⟩ := h
  exact ⟨v1, v2, _, _, rfl, rfl, h1.frame (fun b hb => hf b (by simp [hb])), h2.frame (fun b hb => hf b (by simp [hb]))⟩
 dcr := by
  intro A w cs t B h hA
  obtain ⟨v1, v2, B1, B2, rfl, rfl, h1, h2⟩ := h
  exact ⟨v1, v2, rfl, h1.rd (fun b hb => hA b (by simp [hb])), h2.rd (fun b hb => hA b (by simp [hb]))⟩
 dlt := by
  intro w cs t B h b hb
  obtain ⟨v1, v2, B1, B2, rfl, rfl, h1, h2⟩ := h
  rcases List.mem_append.1 hb with hb | hb
  ·exact h1.lt b hb
  ·exact h2.lt b hb
 flat := false
 flt h := by cases h
theorem Gtree.at_head (t : Gtree) : Part 0 t t.head := by
 intro A w cs h
 obtain ⟨v1, v2, rfl, h1, h2⟩ := h
 refine ⟨[v1], ?_, h1.cell rfl⟩
 intro j u hj
 match j, hj with
 | 0, hj => simpa using hj
theorem Gtree.at_tail (t : Gtree) : Part 1 t t.tail := by
 intro A w cs h
 obtain ⟨v1, v2, rfl, h1, h2⟩ := h
 refine ⟨[v2], ?_, h2.cell rfl⟩
 intro j u hj
 match j, hj with
 | 0, hj => simpa using hj
theorem Gtree.at_nodes (t : Gtree) : Part 2 t t.nodes := by
 intro A w cs h
 obtain ⟨v1, v2, rfl, h1, h2⟩ := h
 refine ⟨[.int .i64 t.nodes], ?_, rfl⟩
 intro j u hj
 match j, hj with
 | 0, hj => simpa using hj
section
variable {P : Program} {n : Fr} {A : Nat → Prop} {w0 w : World} {ρ : Env} {Γ : Ctx} {d : Option Nat} {ty : TypeId} {pos : String} {after : Array Edge} {g : Option (Nat × Bool)}
theorem SH.cv_tr {v : Value} {x : Tre} (h : SH A w0 w Γ) (i : Nat) (hi : Γ[i]? = some (.rd v x)) : CV v [v] := cv_one (Rd.tr (h.get i hi)).one
theorem SH.tr_nil (h : SH A w0 w Γ) : SH A w0 w (.rd (.pointer none) Tre.nil :: Γ) := h.cons_rd rdTrNil
theorem SH.tr_mk {b : Nat} {t : TypeId} {p q : Value} {x y : Tre} {m : Int} (h : SH A w0 w Γ) (i : Nat) (hi : Γ[i]? = some (.bx b t [p, q, .int .i64 m])) (hp : Rd (fun k => A k ∨ k ∈ Γ.owns) w p x) (hq : Rd (fun k => A k ∨ k ∈ Γ.owns) w q y) :
  SH A w0 w (Γ.set i (.rd (.pointer (some ⟨b, 0, none⟩)) (Tre.node x y m))) := by
 have hb : w.heap[b]? = some (.cells [p, q, .int .i64 m].toArray t (0, 0)) := h.get i hi
 refine h.set hi (Grow.refl w _) (by simp [Fact.owns]) (by simp [Fact.owns]) ?_
 obtain ⟨l1, l2, e1, e2⟩ := owns_set (f' := .rd (.pointer (some ⟨b, 0, none⟩)) (Tre.node x y m)) hi
 have hn := h.nd
 rw [e1] at hn
 simp only [Fact.owns, List.append_nil] at e1 e2 hn
 have hsub : ∀ k, (A k ∨ k ∈ Ctx.owns (Γ.set i (.rd (.pointer (some ⟨b, 0, none⟩)) (Tre.node x y m)))) → (A k ∨ k ∈ Γ.owns) := by
  rintro k (hk | hk)
  ·exact .inl hk
  ·right
   rw [e2] at hk
   rw [e1]
   rcases List.mem_append.1 hk with hk | hk <;> simp [hk]
 refine Rd.mk_tr ⟨b, p, q, rfl, ?_, ⟨_, _, hb⟩, fun j u hj => by simpa using cell_of_bx hb (by simpa using hj), (hp.weak hsub).tr, (hq.weak hsub).tr⟩
 rintro (hk | hk)
 ·have h1 := h.av b hk
  have h2 := (h.ge b (by rw [e1]; simp)).1
  omega
 ·rw [e2] at hk
  simp only [List.append_assoc, List.nodup_append] at hn
  rcases List.mem_append.1 hk with hk | hk
  ·exact hn.2.2 b hk b (by simp) rfl
  ·exact hn.2.1.2.2 b (by simp) b hk rfl
theorem tr_mk_owns {b : Nat} {t : TypeId} {cs : List Value} {v : Value} {x : Tre} {i : Nat} (hi : Γ[i]? = some (.bx b t cs)) : ∀ k ∈ Ctx.owns (Γ.set i (.rd v x)), k ∈ Γ.owns := fun k hk => by
 obtain ⟨l1, l2, e1, e2⟩ := owns_set (f' := .rd v x) hi
 rw [e2] at hk
 rw [e1]
 simp only [Fact.owns, List.append_nil, List.mem_append] at hk ⊢
 rcases hk with hk | hk
 ·exact .inl (.inl hk)
 ·exact .inr hk
theorem SH.tr_nilT (h : SH A w0 w Γ) : SH A w0 w (.tkn (.pointer none) Tre.nil [] :: Γ) :=
 h.consT (Grow.refl w []) (by simp [Fact.owns]) (by simp [Fact.owns]) ⟨⟨[], ⟨[_], rfl, _, rfl, rfl, rfl⟩, by simp, by simp⟩, by simp⟩ (by simpa [Fact.toks] using h.tnd) (by simp [Fact.toks])
theorem SH.tr_mkT {b : Nat} {t : TypeId} {p q : Value} {x y : Tre} {m : Int} {B1 B2 : List Nat} (h : SH A w0 w Γ) (i j k : Nat) (hi : Γ[i]? = some (.bx b t [p, q, .int .i64 m])) (hj : Γ[j]? = some (.tkn p x B1)) (hk : Γ[k]? = some (.tkn q y B2)) (hjk : Nat.beq j k = false) :
  SH A w0 w (.tkn (.pointer (some ⟨b, 0, none⟩)) (Tre.node x y m) (b :: (B1 ++ B2)) :: ((Γ.set i (.rd (.pointer (some ⟨b, 0, none⟩)) (Tre.node x y m))).set j (.pr True)).set k (.pr True)) := by
 have hb : w.heap[b]? = some (.cells [p, q, .int .i64 m].toArray t (0, 0)) := h.get i hi
 have hij : i ≠ j := fun e => by subst e; rw [hi] at hj; cases hj
 have hik : i ≠ k := fun e => by subst e; rw [hi] at hk; cases hk
 have hjk : j ≠ k := fun e => by subst e; simp at hjk
 obtain ⟨dj, hB1⟩ := h.get j hj
 obtain ⟨dk, hB2⟩ := h.get k hk
 have h1 := h.tr_mk i hi (dj.rd fun b hb => (hB1 b hb).2) (dk.rd fun b hb => (hB2 b hb).2)
 have bown : b ∈ Γ.owns := List.mem_flatMap.2 ⟨_, List.mem_of_getElem? hi, by simp [Fact.owns]⟩
 have hj1 : (Γ.set i (.rd (.pointer (some ⟨b, 0, none⟩)) (Tre.node x y m)))[j]? = some (.tkn p x B1) := by rw [List.getElem?_set_ne hij]; exact hj
 have h2 := h1.set (f' := .pr True) hj1 (Grow.refl w _) (by simp [Fact.owns]) (by simp [Fact.owns]) trivial
 have hk2 : ((Γ.set i (.rd (.pointer (some ⟨b, 0, none⟩)) (Tre.node x y m))).set j (.pr True))[k]? = some (.tkn q y B2) := by rw [List.getElem?_set_ne hjk, List.getElem?_set_ne hik]; exact hk
 have h3 := h2.set (f' := .pr True) hk2 (Grow.refl w _) (by simp [Fact.owns]) (by simp [Fact.owns]) trivial
 have ho2 : Ctx.owns ((Γ.set i (.rd (.pointer (some ⟨b, 0, none⟩)) (Tre.node x y m))).set j (.pr True)) = Ctx.owns (Γ.set i (.rd (.pointer (some ⟨b, 0, none⟩)) (Tre.node x y m))) := owns_set_eq (f' := .pr True) hj1 rfl
 have ho3 : Ctx.owns (((Γ.set i (.rd (.pointer (some ⟨b, 0, none⟩)) (Tre.node x y m))).set j (.pr True)).set k (.pr True)) = Ctx.owns (Γ.set i (.rd (.pointer (some ⟨b, 0, none⟩)) (Tre.node x y m))) := (owns_set_eq (f' := .pr True) hk2 rfl).trans ho2
 have hbn : b ∉ Ctx.owns (Γ.set i (.rd (.pointer (some ⟨b, 0, none⟩)) (Tre.node x y m))) := by
  obtain ⟨l1, l2, e1, e2⟩ := owns_set (f' := .rd (.pointer (some ⟨b, 0, none⟩)) (Tre.node x y m)) hi
  have hn := h.nd
  rw [e1] at hn
  simp only [Fact.owns, List.append_assoc, List.nodup_append] at hn
  intro hm
  rw [e2] at hm
  simp only [Fact.owns, List.append_nil, List.mem_append] at hm
  rcases hm with hm | hm
  ·exact hn.2.2 b hm b (by simp) rfl
  ·exact hn.2.1.2.2 b (by simp) b hm rfl
 have hsub := tr_mk_owns (v := .pointer (some ⟨b, 0, none⟩)) (x := Tre.node x y m) hi
 have hkj : (Γ.set j (.pr True))[k]? = some (.tkn q y B2) := by rw [List.getElem?_set_ne hjk]; exact hk
 have hi2 : ((Γ.set j (.pr True)).set k (.pr True))[i]? = some (.bx b t [p, q, .int .i64 m]) := by rw [List.getElem?_set_ne (fun e => hik e.symm), List.getElem?_set_ne (fun e => hij e.symm)]; exact hi
 have hset : ((Γ.set i (.rd (.pointer (some ⟨b, 0, none⟩)) (Tre.node x y m))).set j (.pr True)).set k (.pr True) = ((Γ.set j (.pr True)).set k (.pr True)).set i (.rd (.pointer (some ⟨b, 0, none⟩)) (Tre.node x y m)) := by
  rw [List.set_comm _ _ hij, List.set_comm _ _ hik]
 have hperm : Γ.toks.Perm (B1 ++ (B2 ++ Ctx.toks (((Γ.set i (.rd (.pointer (some ⟨b, 0, none⟩)) (Tre.node x y m))).set j (.pr True)).set k (.pr True)))) := by
  refine (toks_perm0 hj).trans (List.Perm.append_left _ ((toks_perm0 hkj).trans (List.Perm.append_left _ ?_)))
  rw [hset]
  exact (toks_perm0 hi2).trans (toks_perm (f' := .rd (.pointer (some ⟨b, 0, none⟩)) (Tre.node x y m)) hi2).symm
 have hnd := hperm.nodup_iff.1 h.tnd
 have hbt : b ∉ Γ.toks := fun hm => (h.tlt b hm).2 bown
 rw [List.nodup_append] at hnd
 obtain ⟨n1, n2, n3⟩ := hnd
 rw [List.nodup_append] at n2
 obtain ⟨n2, n4, n5⟩ := n2
 have hm1 : ∀ z, z ∈ B1 → z ∈ Γ.toks := fun z hz => hperm.mem_iff.2 (by simp [hz])
 have hm2 : ∀ z, z ∈ B2 → z ∈ Γ.toks := fun z hz => hperm.mem_iff.2 (by simp [hz])
 have hm3 : ∀ z, z ∈ Ctx.toks (((Γ.set i (.rd (.pointer (some ⟨b, 0, none⟩)) (Tre.node x y m))).set j (.pr True)).set k (.pr True)) → z ∈ Γ.toks := fun z hz => hperm.mem_iff.2 (by simp [hz])
 refine h3.consT (Grow.refl w []) (by simp [Fact.owns]) (by simp [Fact.owns]) ⟨?_, fun z hz => ?_⟩ ?_ ?_
 ·obtain ⟨C1, ⟨c1, e1, u1, eu1, d1⟩, nd1, s1⟩ := dj
  obtain ⟨C2, ⟨c2, e2, u2, eu2, d2⟩, nd2, s2⟩ := dk
  subst eu1 eu2
  have e1 : p = u1 := e1
  have e2 : q = u2 := e2
  subst e1 e2
  refine ⟨b :: (C1 ++ C2), ⟨[_], rfl, _, rfl, b, p, q, C1, C2, rfl, ⟨_, _, hb⟩, fun j u hj => by simpa using cell_of_bx hb (by simpa using hj), d1, d2, rfl⟩, ?_, ?_⟩
  ·rw [List.nodup_cons, List.nodup_append]
   refine ⟨fun hm => ?_, nd1, nd2, fun a ha c hc e => ?_⟩
   ·rcases List.mem_append.1 hm with hm | hm
    ·exact hbt (hm1 b (s1 b hm))
    ·exact hbt (hm2 b (s2 b hm))
   ·subst e
    exact n3 a (s1 a ha) a (by simp [s2 a hc]) rfl
  ·intro z hz
   rcases List.mem_cons.1 hz with rfl | hz
   ·simp
   ·rcases List.mem_append.1 hz with hz | hz
    ·simp [s1 z hz]
    ·simp [s2 z hz]
 ·have ho : Ctx.owns (Fact.tkn (.pointer (some ⟨b, 0, none⟩)) (Tre.node x y m) (b :: (B1 ++ B2)) :: ((Γ.set i (.rd (.pointer (some ⟨b, 0, none⟩)) (Tre.node x y m))).set j (.pr True)).set k (.pr True)) = Ctx.owns (Γ.set i (.rd (.pointer (some ⟨b, 0, none⟩)) (Tre.node x y m))) := by
   rw [← ho3]
   simp [Ctx.owns, Fact.owns]
  rw [ho]
  rcases List.mem_cons.1 hz with rfl | hz
  ·refine ⟨(h.ge z bown).2, ?_⟩
   rintro (hk | hk)
   ·have := h.av z hk
    have := (h.ge z bown).1
    omega
   ·exact hbn hk
  ·rcases List.mem_append.1 hz with hz | hz
   ·exact ⟨(hB1 z hz).1, fun hk => (hB1 z hz).2 (hk.imp id (hsub z))⟩
   ·exact ⟨(hB2 z hz).1, fun hk => (hB2 z hz).2 (hk.imp id (hsub z))⟩
 ·show ((b :: (B1 ++ B2)) ++ Ctx.toks (((Γ.set i (.rd (.pointer (some ⟨b, 0, none⟩)) (Tre.node x y m))).set j (.pr True)).set k (.pr True))).Nodup
  rw [List.cons_append, List.nodup_cons, List.append_assoc, List.nodup_append, List.nodup_append]
  refine ⟨fun hm => ?_, n1, ⟨n2, n4, n5⟩, n3⟩
  rcases List.mem_append.1 hm with hm | hm
  ·exact hbt (hm1 b hm)
  ·rcases List.mem_append.1 hm with hm | hm
   ·exact hbt (hm2 b hm)
   ·exact hbt (hm3 b hm)
 ·intro z hz
  simp only [Fact.toks, List.mem_cons, List.mem_append] at hz
  rcases hz with rfl | hz | hz
  ·exact (h.ge z bown).1
  ·exact h.tge z (hm1 z hz)
  ·exact h.tge z (hm2 z hz)
theorem SH.tr_pt {v : Value} {x : Tre} {y : Gtree} (h : SH A w0 w Γ) (i : Nat) (hi : Γ[i]? = some (.rd v x)) (hy : x.cells = some y) : SH A w0 w (.pt v y :: Γ) := by
 refine h.cons (Grow.refl w []) (by simp [Fact.owns]) (by simp [Fact.owns]) ?_
 have hr := Rd.tr (h.get i hi)
 cases x with
 | nil => cases hy
 | node x1 x2 m =>
  obtain rfl := Option.some.inj hy
  obtain ⟨b, p, q, e, h1, h2, h3, h4, h5⟩ := hr
  have eo : ∀ k, (A k ∨ k ∈ Ctx.owns (@Fact.pt Gtree _ v ⟨x1, x2, m⟩ :: Γ)) → (A k ∨ k ∈ Γ.owns) := fun k hk => by simpa [Ctx.owns, Fact.owns] using hk
  exact ⟨b, 0, _, e, fun hk => h1 (eo b hk), h2.lt, h3, p, q, rfl, (Rd.mk_tr h4).weak eo, (Rd.mk_tr h5).weak eo⟩
theorem Rd.tr_isNil {A : Nat → Prop} {w : World} {v : Value} {x : Tre} (h : Rd A w v x) : ∃ a : Option Addr, v = .pointer a ∧ a.isNone = x.isNil := by
 have h := h.tr
 cases x with
 | nil => exact ⟨none, h, rfl⟩
 | node _ _ _ => obtain ⟨b, p, q, e, _⟩ := h; exact ⟨_, e, rfl⟩
theorem ex_eq_tr {x y : Operand} {t te u : TypeId} {v : Value} {z : Tre} (i : Nat) (ht : P.underlying t = some (.pointer te)) (hx : ev ρ x = some v) (hy : ev ρ y = some (.pointer none)) (hi : Γ[i]? = some (.rd v z)) : Ex P n A w0 ρ Γ ⟨d, .binOp .eql t x y u, ty, pos, after, g⟩ (.bool z.isNil) := by
 intro b w hs hh
 obtain ⟨a, rfl, e⟩ := (hh.rd i hi).tr_isNil
 rw [← e]
 exact ex_eq_nil ht hx hy b w hs hh
theorem ex_ne_tr {x y : Operand} {t te u : TypeId} {v : Value} {z : Tre} (i : Nat) (ht : P.underlying t = some (.pointer te)) (hx : ev ρ x = some v) (hy : ev ρ y = some (.pointer none)) (hi : Γ[i]? = some (.rd v z)) : Ex P n A w0 ρ Γ ⟨d, .binOp .neq t x y u, ty, pos, after, g⟩ (.bool (!z.isNil)) := by
 intro b w hs hh
 obtain ⟨a, rfl, e⟩ := (hh.rd i hi).tr_isNil
 rw [← e]
 simp [execOp, hs.eval hx, hs.eval hy, eqGuard, binOp, run_eq_ptr ht]
theorem RowAt.three {w : World} {b : Nat} {p q r p' q' r' : Value} (h : RowAt w b 0 [p, q, r]) (h' : RowAt w b 0 [p', q', r']) : p = p' ∧ q = q' ∧ r = r' := by
 have e0 := (h 0 p rfl).symm.trans (h' 0 p' rfl)
 have e1 := (h 1 q rfl).symm.trans (h' 1 q' rfl)
 have e2 := (h 2 r rfl).symm.trans (h' 2 r' rfl)
 exact ⟨Option.some.inj e0, Option.some.inj e1, Option.some.inj e2⟩
theorem RdTr.inj {A A' : Nat → Prop} {w : World} : ∀ {x y : Tre} {v : Value}, RdTr A w v x → RdTr A' w v y → x = y
 | .nil, .nil, _, _, _ => rfl
 | .nil, .node _ _ _, _, h, ⟨_, _, _, e, _⟩ => by
  have h : _ = Value.pointer none := h
  rw [h] at e
  simp at e
 | .node _ _ _, .nil, _, ⟨_, _, _, e, _⟩, h => by
  have h : _ = Value.pointer none := h
  rw [h] at e
  simp at e
 | .node _ _ _, .node _ _ _, _, ⟨b, p, q, e, _, _, h3, h4, h5⟩, ⟨b', p', q', e', _, _, h3', h4', h5'⟩ => by
  rw [e] at e'
  simp only [Value.pointer.injEq, Option.some.injEq, Addr.mk.injEq, and_true] at e'
  subst e'
  obtain ⟨rfl, rfl, en⟩ := h3.three h3'
  simp only [Value.int.injEq, true_and] at en
  rw [RdTr.inj h4 h4', RdTr.inj h5 h5', en]
theorem run_eq_nptr {tp te : TypeId} (hp : P.underlying tp = some (.pointer te)) (a : Addr) (w : World) : (Op.equal tp (.pointer none) (.pointer (some a))).run P w = .ok false w := by
 have h : ∀ d : Nat, (Op.equalIn (d + 1) tp (.pointer none) (.pointer (some a))).run P w = .ok false w := fun d => by
  simp [Op.equalIn, run_underlying hp]
 simp [Op.equal, Op.maxDepth, h 9999]
theorem JL_eqtr {R : Type} {Q : R → Exit → Act → World → Prop} {E : Option R} {ops : Array Oper} {rest : List Oper} {d : Nat} {x y : Operand} {t te u : TypeId} {z : Nat × Bool} {v1 v2 : Value} {z1 z2 : Tre} (i j : Nat)
  (ht : P.underlying t = some (.pointer te)) (hi : tinf P te = some z) (hz : Nat.beq z.1 0 = false) (hw : Wants n ρ ops ⟨some d, .binOp .eql t x y u, ty, pos, after, g⟩) (hd : Nat.blt d n.n = true)
  (hx : ev ρ x = some v1) (hy : ev ρ y = some v2) (h1 : Γ[i]? = some (.rd v1 z1)) (h2 : Γ[j]? = some (.rd v2 z2))
  (h : ∀ b : Bool, (b = true → z1 = z2) ∧ (b = false → (z1.isNil && z2.isNil) = false) → JL P n A w0 ops rest Q ((d, .bool b) :: ρ) Γ E) :
  JL P n A w0 ops (⟨some d, .binOp .eql t x y u, ty, pos, after, g⟩ :: rest) Q ρ Γ E := by
 intro r hr a w hs hh
 have hr1 := Rd.tr (hh.get i h1)
 have hr2 := Rd.tr (hh.get j h2)
 obtain ⟨jn, hjn, hsz⟩ : ∃ k, P.info? te = some k ∧ k.size ≠ 0 := by
  unfold tinf at hi
  split at hi
  ·rename_i k u' e1 e2
   refine ⟨_, e1, fun e => ?_⟩
   simp only [Option.some.injEq] at hi
   subst hi
   simp only at hz
   rw [e] at hz
   simp at hz
  ·cases hi
 have key : ∃ b : Bool, (binOp .eql t v1 v2).run P w = .ok (.bool b) w ∧ (b = true → z1 = z2) ∧ (b = false → (z1.isNil && z2.isNil) = false) := by
  cases z1 with
  | nil =>
   have e1 : v1 = .pointer none := hr1
   subst e1
   cases z2 with
   | nil =>
    have e2 : v2 = .pointer none := hr2
    subst e2
    exact ⟨true, by simp [binOp, run_eq_ptr ht], fun _ => rfl, fun h => (by cases h)⟩
   | node a2 b2 m2 =>
    obtain ⟨b, p, q, e2, _⟩ := hr2
    subst e2
    exact ⟨false, by simp [binOp, run_eq_nptr ht], fun h => (by cases h), fun _ => rfl⟩
  | node a1 b1 m1 =>
   have hr1' := hr1
   obtain ⟨b, p, q, e1, hA1, ⟨c1, t1, hp1⟩, _⟩ := hr1
   subst e1
   cases z2 with
   | nil =>
    have e2 : v2 = .pointer none := hr2
    subst e2
    exact ⟨false, by simp [binOp, run_eq_ptr ht], fun h => (by cases h), fun _ => rfl⟩
   | node a2 b2 m2 =>
    have hr2' := hr2
    obtain ⟨b', p', q', e2, hA2, ⟨c2, t2, hp2⟩, _⟩ := hr2
    subst e2
    by_cases e : b = b'
    ·subst e
     exact ⟨true, run_eql_ptr_same w _ ht hjn, fun _ => RdTr.inj hr1' hr2', fun h => by cases h⟩
    ·exact ⟨false, run_eql_ptr_other w ht hjn hsz (fun h => by simp at h <;> exact absurd h e) hp1 hp2, fun h => (by cases h), fun _ => rfl⟩
 obtain ⟨b, hrun, hb⟩ := key
 obtain ⟨p1, ep1, _⟩ := (hh.rd i h1).tr_isNil
 obtain ⟨p2, ep2, _⟩ := (hh.rd j h2).tr_isNil
 rw [ep1] at hx hrun
 rw [ep2] at hy hrun
 refine wpList_step fun K hK => ?_
 rw [hw a hs]
 simp only [if_true]
 unfold Oper.wp
 have he : (execOp a.eval ⟨some d, .binOp .eql t x y u, ty, pos, after, g⟩).run P w = .ok (.value (.bool b)) w := by
  simp [execOp, hs.eval hx, hs.eval hy, eqGuard, hrun]
 rw [he]
 exact hK _ _ (h b hb r hr _ _ (hs.put (by simpa [Nat.blt_eq] using hd)) hh)
theorem J_weak {R : Type} {Q : R → Exit → Act → World → Prop} {E E' : Option R} {c : Code} (he : ∀ r, E = some r → E' = some r) (h : J P n A w0 c Q ρ Γ E') : J P n A w0 c Q ρ Γ E := fun r hr a w hs hh => h r (he r hr) a w hs hh
theorem J_ifE {R : Type} {Q : R → Exit → Act → World → Prop} {E : Option R} {t : Nat} {b : Bool} {x y : Code} (hb : ρ.get t = some (.bool b)) (h1 : b = true → J P n A w0 x Q ρ Γ E) (h2 : b = false → J P n A w0 y Q ρ Γ E) : J P n A w0 (.cond (.tmp t) x y) Q ρ Γ E := by
 have := J_if (E1 := E) (E2 := E) hb h1 h2
 cases b <;> exact this
theorem ex_nilCheck_tr {x : Operand} {v : Value} {z : Tre} {y : Gtree} (i : Nat) (hx : ev ρ x = some v) (hi : Γ[i]? = some (.rd v z)) (hy : z.cells = some y) : Ex P n A w0 ρ Γ ⟨d, .nilCheck x, ty, pos, after, g⟩ v := fun a w hs hh =>
 ex_nilCheck_pt (Γ := .pt v y :: Γ) 0 hx rfl a w hs (hh.tr_pt i hi hy)
theorem st_field_tr {β : Type} [Rep β] {x : Operand} {t : TypeId} {v : Value} {x0 : Tre} {y : Gtree} {z : β} {f o s : Nat} (i : Nat) (hP : Part o y z) (hf : finf P t f = some (o, s)) (hs' : Nat.blt 0 s = true) (hx : ev ρ x = some v) (hi : Γ[i]? = some (.rd v x0)) (hy : x0.cells = some y) :
  St P n A w0 ρ Γ ⟨d, .fieldAddr t x f, ty, pos, after, g⟩ (fun q : Value => q) (fun q => .pt q z :: Γ) [] := by
 intro a w hs hh
 have h1 := hh.tr_pt i hi hy
 obtain ⟨b, off, cs, rfl, h1, h2, h3, h4⟩ := h1.get 0 rfl
 obtain ⟨c, hc1, hc2⟩ := hP _ _ _ h4
 refine ⟨.pointer (some ⟨b, off + o, none⟩), w, by simp [execOp, hs.eval hx, run_fieldAt hf hs'], ?_, Grow.refl w _, .plain rfl⟩
 refine hh.cons (Grow.refl w []) (by simp [Fact.owns]) (by simp [Fact.owns]) ?_
 refine ⟨b, off + o, c, rfl, by simpa [Ctx.owns, Fact.owns] using h1, h2, fun j u hj => ?_, by simpa [Ctx.owns, Fact.owns] using hc2⟩
 rw [Nat.add_assoc]
 exact h3 _ _ (hc1 j u hj)
theorem sq_field_tr {β : Type} [Rep β] {x : Operand} {t : TypeId} {v : Value} {x0 : Tre} {y : Gtree} {z : β} {f o s : Nat} (i : Nat) (hP : Part o y z) (hf : finf P t f = some (o, s)) (hs' : Nat.blt 0 s = true) (hx : ev ρ x = some v) (hi : Γ[i]? = some (.rd v x0)) (hy : x0.cells = some y) :
  Sq P n A w0 ρ Γ ⟨d, .fieldAddr t x f, ty, pos, after, g⟩ (fun q : Value => q) (fun q => .pt q z :: Γ) := by
 intro a w hs hh
 obtain ⟨q, w', hrun, hh', _, _⟩ := st_field_tr (d := d) (ty := ty) (pos := pos) (after := after) (g := g) i hP hf hs' hx hi hy a w hs hh
 have h1 := hh.tr_pt i hi hy
 obtain ⟨b, off, cs, rfl, h1, h2, h3, h4⟩ := h1.get 0 rfl
 have he : ∀ w', (execOp a.eval ⟨d, .fieldAddr t x f, ty, pos, after, g⟩).run P w' = .ok (.value (.pointer (some ⟨b, off + o, none⟩))) w' := fun w' => by simp [execOp, hs.eval hx, run_fieldAt hf hs']
 rw [he w] at hrun
 cases hrun
 exact ⟨_, fun w' _ => he w', hh'⟩
theorem st_make0 {α : Type} [Rep α] {l x : Operand} {t e : TypeId} {ag : Bool} {bytes : Nat} {zv : Value} {z : α} {k : Int} {xs : List α} (ht : P.underlying t = some (.slice e)) (he : tinf P e = some (Rep.sz α, ag)) (hz : zinf P e = some zv) (hb : binf P e = some bytes) (hby : Nat.ble bytes 128 = true)
  (hl : ev ρ l = some (.int .i64 0)) (hx : ev ρ x = some (.int .i64 k)) (hk : mke k z = some xs) :
  St P n A w0 ρ Γ ⟨d, .makeSlice t l x, ty, pos, after, g⟩ (fun b : Nat => .slice (some ⟨b, 0, none⟩) 0 xs.length) (fun b => .ow e (.slice (some ⟨b, 0, none⟩) 0 xs.length) ([] : List α) :: Γ) [] := by
 intro a w hs hh
 obtain ⟨h0, h1, rfl⟩ := mke_eq hk
 obtain ⟨inf, hinf, hz'⟩ := Option.bind_eq_some_iff.1 hz
 have hsz : inf.size = Rep.sz α := by
  have h1 := he
  unfold tinf at h1
  rw [hinf] at h1
  split at h1
  ·rename_i i' u' e1 e2
   simp at e1 h1
   rw [e1]; exact h1.1
  ·simp at h1
 have hbb : inf.bytes = bytes := by simpa [binf, hinf] using hb
 simp only [Nat.ble_eq] at hby
 obtain ⟨m, rfl⟩ := Int.eq_ofNat_of_zero_le h0
 simp only [Int.toNat_natCast] at hk h1 hx ⊢
 have hbytes : (inf.bytes : Int) * (m : Int) ≤ 281474976710656 := by
  have h : inf.bytes * m ≤ 281474976710656 := by
   rw [hbb]
   have := Nat.mul_le_mul hby (show m ≤ 1099511627776 by omega)
   omega
  have h : ((inf.bytes * m : Nat) : Int) ≤ 281474976710656 := by omega
  rwa [Int.natCast_mul] at h
 have hrun := run_make (P := P) w t e inf zv ht hinf hz' .i64 .i64 0 m (Int.le_refl _) (by omega) hbytes (by omega)
 simp only [Int.toNat_natCast, Int.toNat_zero] at hrun
 refine ⟨w.heap.size, w.alloc (.cells (madeCells zv.cells (m * inf.size)) e), ?_, ?_, Grow.alloc w _ [], .cons (by simp [Fact.owns, Value.ownBlock])⟩
 ·simp only [execOp, hs.eval hx, hs.eval hl, Sem.run_bind, hrun]
  simp
 ·refine hh.cons (Grow.alloc w _ []) (by simp [Fact.owns, Value.ownBlock]) ?_ ?_
  ·intro b hb'
   simp [Fact.owns, Value.ownBlock] at hb'
   subst hb'
   exact ⟨Nat.le_refl _, by simp⟩
  ·exact ⟨[], ⟨by simp, .inr ⟨w.heap.size, m, _, by simp, Nat.zero_le _, heap_alloc_new w _, Nat.zero_le _, by unfold maxLen; omega, by rw [size_madeCells, hsz], by simp⟩⟩, rfl⟩
theorem JO_callvT {R : Type} {Q : R → Exit → Act → World → Prop} {E : Option R} {w1 : World} {Γ1 : Ctx} {ops : Array Oper} {O : List Nat} {fuel : Nat} {listed : Array Bool} {i d : Nat} {o : Operand} {f : FuncId} {args : List Operand} {ats : Array TypeId} {vs caps : List Value} {G : Type} {v : G → Value} {Γ' : G → Ctx} {T : List Nat}
  (hi : ops[i]? = some ⟨some d, .call ⟨.value o, args.toArray, ats⟩, ty, pos, after, g⟩) (hw : Wants n ρ ops ⟨some d, .call ⟨.value o, args.toArray, ats⟩, ty, pos, after, g⟩) (hd : Nat.blt d n.n = true)
  (hf : ∀ args w, (callFunc f args).run P w = .ok (.enter f args) w) (ho : ev ρ o = some (.func (.func f) #[] caps.toArray)) (hargs : evL ρ args = some vs) (hC : CaT P A w0 Γ f (vs ++ caps) v Γ' T) (hT : ∀ k ∈ T, k ∈ O)
  (h : ∀ x, JD P n A w0 w1 Γ1 ops O fuel (listed.setIfInBounds i true) Q ((d, v x) :: ρ) (Γ' x) E) : JO P n A w0 w1 Γ1 ops O fuel listed Q i ρ Γ E := by
 intro r hr' a w hsa hh hg hon
 unfold wpOp
 simp only [hi, hw a hsa, if_true]
 refine .inl ?_
 unfold Oper.wp
 rw [run_callv hsa hf ho hargs, Oper.upon_enter]
 refine (hC w hh).mono ?_
 rintro e w' ⟨x, rfl, hh', hgr, hno⟩
 exact ⟨hg.more hgr hT, h x r hr' _ _ (hsa.put (by simpa [Nat.blt_eq] using hd)) hh' (hg.more hgr hT) (hon.trans hg hno)⟩
section
variable {R : Type} {Q : R → Exit → Act → World → Prop} {E : Option R} {w1 : World} {Γ1 : Ctx} {ops : Array Oper} {O : List Nat} {fuel : Nat} {listed : Array Bool}
variable {b : Nat} {t : TypeId} {p q : Value} {x y : Tre} {m : Int} {B1 B2 : List Nat}
theorem JD_trmk (i : Nat) (hi : Γ[i]? = some (.bx b t [p, q, .int .i64 m])) (hp : ∀ w, SH A w0 w Γ → Rd (fun k => A k ∨ k ∈ Γ.owns) w p x) (hq : ∀ w, SH A w0 w Γ → Rd (fun k => A k ∨ k ∈ Γ.owns) w q y)
  (h : JD P n A w0 w1 Γ1 ops O fuel listed Q ρ (Γ.set i (.rd (.pointer (some ⟨b, 0, none⟩)) (Tre.node x y m))) E) : JD P n A w0 w1 Γ1 ops O fuel listed Q ρ Γ E :=
 JD_ctx (fun w hh => hh.tr_mk i hi (hp w hh) (hq w hh)) (tr_mk_owns hi) h
end
end
end Go.Tc
