/-
  Rows as cells alone; functions that turn an own row round. No condition.
  Functions that store through what they are handed: boxes and rows of the caller's go in, and come back with what they hold then. No condition.
  Arrays of numbers inside boxes: parts of them copied, read and written at an index. No condition.
  Ranges over a map, in whatever order its entries come. No condition.
  Tokens that go over one by one: a row with tokens is read from its begin on, and what is taken out takes its tokens along. No condition.
  Own rows in full, their inner rows too; an element of such a row, opened and closed; tokens that become own rows again. No condition.
  Ranges over functions: the function that is ranged over and the rounds are walked in place. No condition.
  Bytes and parts of texts. No condition.
  Functions that strike elements out of an own row by a function value (slices.DeleteFunc). No condition.
  Interface values of known dynamic types: made, and their methods called. No condition.
  What strings.Builder does with memory: a pointer in a box held against itself, turned to unsafe.Pointer and back; the bytes of an own row as a text. No condition.
  Function values in boxes; calls of closures that store through what they have captured. No condition.
  An inner row of a row of rows, opened and closed; append to such a row; rows with tokens that become own rows in full. No condition.
-/
import Derived.Test.YtgpimmdigeobbaaMore
import Derived.Maps.RangeRun
import Derived.Lib.Builder
import Derived.Lib.UnsafeStr
import Derived.Lib.Join
import Derived.ArgAppend
namespace Go.Tc
open Go Go.RowKit
structure Vc where
 v : Value
 one : v.oneCell' = true
instance : Rep Vc where
 sz := 1
 agg := false
 rdc _ _ cs x := cs = [x.v]
 len h := by subst h; rfl
 one := by
  intro A w cs x h c hc
  subst h
  simp at hc
  subst hc
  exact x.one
 pos := by decide
 single _ := rfl
 frame h _ := h
 dc _ cs x B := cs = [x.v] ∧ B = []
 dcf h _ := h
 dcr h _ := h.1
 dlt h b hb := by simp [h.2] at hb
 flat := true
 flt _ h := ⟨h, rfl⟩
theorem rev_start {α : Type} [Rep α] {w : World} {e : TypeId} {v : Value} {xs : List α} (h : Ow (fun k => k ∈ v.ownBlock.toList) w e v xs) (hb : ∀ b ∈ v.ownBlock.toList, b < w.heap.size) : SH nowhere (bare w) w [.ow e v xs, rest w v.ownBlock.toList] := by
 have ho : Ctx.owns [Fact.ow e v xs, rest w v.ownBlock.toList] = v.ownBlock.toList := by simp [Ctx.owns, Fact.owns]
 refine ⟨⟨rfl, rfl, rfl, by simp [bare], fun k hk => by simp [bare] at hk⟩, fun k hk => hk.elim, ?_, fun b hb' => ⟨by simp [bare], hb b (by rw [ho] at hb'; exact hb')⟩, by simp [Ctx.toks, Fact.toks], by simp [Ctx.toks, Fact.toks], fun f hf => ?_⟩
 ·rw [ho]
  cases v.ownBlock <;> simp
 ·rw [ho]
  simp only [List.mem_cons, List.not_mem_nil, or_false] at hf
  rcases hf with rfl | rfl
  ·obtain ⟨cells, h1, h2⟩ := h
   refine ⟨cells, h1, RdL.frame (fun k _ hk => ⟨rfl, ?_⟩) _ _ h2⟩
   rintro (hk' | hk')
   ·exact hk'
   ·exact hk hk'
  ·refine ⟨Nat.le_refl _, fun k hk => ⟨?_, hk.1, rfl⟩⟩
   rintro (hk' | hk')
   ·exact hk'
   ·exact hk.2 hk'
section
variable {R : Type} {P : Program} {n : Fr} {A : Nat → Prop} {w0 w w' : World} {Q : R → Exit → Act → World → Prop} {ρ ρ' : Env} {Γ Γ' : Ctx} {E : Option R}
variable {d : Option Nat} {ty : TypeId} {pos : String} {after : Array Edge} {g : Option (Nat × Bool)}
end
end Go.Tc
namespace Go.Tc
open Go Go.RowKit
def restL (w : World) (B : List Nat) : List Nat := (List.range w.heap.size).filter (fun k => !(B.contains k))
theorem mem_restL {w : World} {B : List Nat} {k : Nat} : k ∈ restL w B ↔ k < w.heap.size ∧ k ∉ B := by
 simp [restL]
abbrev outs (w : World) (B : List Nat) : Fact := .tkn (.int .i64 0) (0 : Int) (restL w B)
def Fact.loose : Fact → Bool
 | @Fact.ow α _ _ _ _ => Rep.flat α
 | @Fact.od _ _ _ _ _ _ => true
 | @Fact.tkn _ _ _ _ _ => true
 | .bx _ _ _ => true
 | .pr _ => true
 | .inv _ _ => true
 | _ => false
theorem Fact.loose_holds {A A' : Nat → Prop} {B B' : Nat} {w : World} {f : Fact} (hl : f.loose = true) (h : f.holds A B w) (ht : ∀ b ∈ f.toks, ¬ A' b) : f.holds A' B' w := by
 cases f with
 | ow e v xs =>
  obtain ⟨cells, h1, h2⟩ := h
  exact ⟨cells, h1, (DL.flat hl _ _ h2).rd _ _ _ (by simp)⟩
 | od e v xs Bs =>
  exact ⟨h.1, fun b hb => ⟨(h.2 b hb).1, ht b hb⟩⟩
 | tkn v x Bs =>
  exact ⟨h.1, fun b hb => ⟨(h.2 b hb).1, ht b hb⟩⟩
 | bx b t cs => exact h
 | pr p => exact h
 | rd v x => simp [Fact.loose] at hl
 | pt v x => simp [Fact.loose] at hl
 | pa v x => simp [Fact.loose] at hl
 | inv B I => exact h
 | fz w1 C => simp [Fact.loose] at hl
theorem ptr_start {w : World} {Γin : Ctx} (hn : Γin.owns.Nodup) (hb : ∀ b ∈ Γin.owns, b < w.heap.size) (ht : Γin.toks = []) (hl : Γin.all Fact.loose = true) {A : Nat → Prop} {B : Nat} (hh : ∀ f ∈ Γin, f.holds A B w) :
  SH nowhere (bare w) w (Γin ++ [outs w Γin.owns, rest w Γin.owns]) := by
 have ho : Ctx.owns (Γin ++ [outs w Γin.owns, rest w Γin.owns]) = Γin.owns := by simp [Ctx.owns, Fact.owns]
 have hto : Ctx.toks (Γin ++ [outs w Γin.owns, rest w Γin.owns]) = restL w Γin.owns := by
  have : Ctx.toks (Γin ++ [outs w Γin.owns, rest w Γin.owns]) = Γin.toks ++ restL w Γin.owns := by simp [Ctx.toks, Fact.toks]
  rw [this, ht, List.nil_append]
 refine ⟨⟨rfl, rfl, rfl, by simp [bare], fun k hk => by simp [bare] at hk⟩, fun k hk => hk.elim, by rw [ho]; exact hn, fun b h => ⟨by simp [bare], ?_⟩, ?_, fun b _ => by simp [bare], fun f hf => ?_⟩
 ·rw [ho] at h
  exact hb b h
 ·rw [hto]
  exact List.nodup_range.filter _
 ·rw [ho]
  rcases List.mem_append.1 hf with hf | hf
  ·refine Fact.loose_holds (List.all_eq_true.1 hl f hf) (hh f hf) (fun b hbt => ?_)
   have : b ∈ Γin.toks := List.mem_flatMap.2 ⟨f, hf, hbt⟩
   rw [ht] at this
   simp at this
  ·simp only [List.mem_cons, List.not_mem_nil, or_false] at hf
   rcases hf with rfl | rfl
   ·refine ⟨⟨[], ⟨[.int .i64 0], rfl, rfl, rfl⟩, by simp, by simp⟩, fun b hbr => ⟨(mem_restL.1 hbr).1, ?_⟩⟩
    rintro (hk | hk)
    ·exact hk
    ·exact (mem_restL.1 hbr).2 hk
   ·refine ⟨Nat.le_refl _, fun k hk => ⟨?_, hk.1, rfl⟩⟩
    rintro (hk' | hk')
    ·exact hk'.elim
    ·exact hk.2 hk'
def PHanded (w : World) (Γin : Ctx) : Prop := Γin.owns.Nodup ∧ (∀ b ∈ Γin.owns, b < w.heap.size) ∧ Γin.toks = [] ∧ Γin.all Fact.loose = true ∧ ∀ f ∈ Γin, f.holds (fun _ => False) 0 w
theorem SH.begin {w : World} {Γin : Ctx} {B : List Nat} (hB : Γin.owns = B) (h : PHanded w Γin) : SH nowhere (bare w) w (Γin ++ [outs w B, rest w B]) := by
 subst hB
 exact ptr_start h.1 h.2.1 h.2.2.1 h.2.2.2.1 h.2.2.2.2
theorem SH.cons_apart {α : Type} [Rep α] {w0 w : World} {Γ : Ctx} {B : List Nat} {v : Value} {x : α} (h : SH nowhere w0 w Γ) (hB : Γ.owns = B) (hr : Rd (fun k => k ∈ B) w v x) : SH nowhere w0 w (.rd v x :: Γ) :=
 h.cons_rd (by
  rw [hB]
  exact hr.weak fun k hk => hk.elim (fun h => h.elim) id)
def PtrCon (P : Program) (f : FuncId) (vs : List Value) (w : World) (B : List Nat) {G : Type} (v : G → Value) (fs : G → Ctx) : Prop :=
 Calls P f vs.toArray w fun e w' => ∃ x, e = .returned (v x) ∧ SH nowhere (bare w) w' (fs x ++ [outs w B, rest w B])
section
variable {R : Type} {P : Program} {n : Fr} {A : Nat → Prop} {w0 w w' : World} {Q : R → Exit → Act → World → Prop} {ρ ρ' : Env} {Γ Γ' Δ : Ctx} {E : Option R} {B : List Nat}
variable {d : Option Nat} {ty : TypeId} {pos : String} {after : Array Edge} {g : Option (Nat × Bool)}
theorem ptr_back {A' : Nat → Prop} {w1 : World} (k : SH A' w1 w' (Δ ++ [outs w B, rest w B])) (hw : w1 = bare w) (hA' : A' = nowhere) :
  Grow w w' B ∧ (∀ b ∈ Δ.owns, b ∈ B ∨ w.heap.size ≤ b) ∧ (∀ b ∈ Δ.toks, b ∈ B ∨ w.heap.size ≤ b) ∧ Δ.owns.Nodup ∧ Δ.toks.Nodup ∧ (∀ b ∈ Δ.owns, b < w'.heap.size) ∧ ∀ b ∈ Δ.toks, b < w'.heap.size ∧ b ∉ Δ.owns := by
 subst hw hA'
 have ho : Ctx.owns (Δ ++ [outs w B, rest w B]) = Δ.owns := by simp [Ctx.owns, Fact.owns]
 have hto : Ctx.toks (Δ ++ [outs w B, rest w B]) = Δ.toks ++ restL w B := by simp [Ctx.toks, Fact.toks]
 have h1 := k.get Δ.length (f := outs w B) (by simp)
 have h2 := k.get (Δ.length + 1) (f := rest w B) (by simp)
 rw [ho] at h1 h2
 have htn := k.tnd
 rw [hto, List.nodup_append] at htn
 refine ⟨⟨k.below.os, k.below.tape, k.below.output, h2.1, fun j hj hb => (h2.2 j ⟨hj, hb⟩).2.2⟩, fun b hb => ?_, fun b hb => ?_, by have := k.nd; rw [ho] at this; exact this, htn.1, fun b hb => (k.ge b (by rw [ho]; exact hb)).2, fun b hb => ?_⟩
 ·refine Classical.byContradiction fun hn => ?_
  exact (h2.2 b ⟨by omega, fun h => hn (.inl h)⟩).1 (.inr hb)
 ·refine Classical.byContradiction fun hn => ?_
  exact htn.2.2 b hb b (mem_restL.2 ⟨by omega, fun h => hn (.inl h)⟩) rfl
 ·have := k.tlt b (by rw [hto]; simp [hb])
  rw [ho] at this
  exact this
theorem SH.ptr_join (h : SH A w0 w Γ) (is js : List Nat) (hn : ndup (js ++ is) = true) (hB : (Tc.sel is Γ).owns = B) (k : SH nowhere (bare w) w' (Δ ++ [outs w B, rest w B])) (hl : Δ.all Fact.loose = true) :
  SH A w0 w' (Δ ++ Tc.sel js Γ) ∧ Grow w w' B ∧ OwnNew Γ (Δ ++ Tc.sel js Γ) w := by
 obtain ⟨hg, hon, htn, hnd, htd, hlt, htl⟩ := ptr_back k rfl rfl
 have hp := h.persist js is hn hB hg
 have hBo : ∀ b ∈ B, b ∈ Γ.owns := fun b hb => by
  rw [← hB] at hb
  obtain ⟨i, _, f, hf, hbf⟩ := sel_owns is Γ b hb
  exact List.mem_flatMap.2 ⟨f, List.mem_of_getElem? hf, hbf⟩
 have hso : ∀ b ∈ (Tc.sel js Γ).owns, b ∈ Γ.owns := fun b hb => by
  obtain ⟨m, _, f, hf, hbf⟩ := sel_owns js Γ b hb
  exact List.mem_flatMap.2 ⟨f, List.mem_of_getElem? hf, hbf⟩
 have hne : ∀ b ∈ (Tc.sel js Γ).owns, b ∉ B := fun b hb hbB => by
  rw [← hB] at hbB
  obtain ⟨i, hi, f, hf, hbf⟩ := sel_owns js Γ b hb
  obtain ⟨j, hj, f', hf', hbf'⟩ := sel_owns is Γ b hbB
  exact nodup_two h.nd hf hf' ((ndup_append js is hn).2 i hi j hj) hbf hbf'
 have ho : Ctx.owns (Δ ++ Tc.sel js Γ) = Δ.owns ++ (Tc.sel js Γ).owns := by simp [Ctx.owns]
 have hto : Ctx.toks (Δ ++ Tc.sel js Γ) = Δ.toks ++ (Tc.sel js Γ).toks := by simp [Ctx.toks]
 have hge : ∀ b, b ∈ B ∨ w.heap.size ≤ b → w0.heap.size ≤ b := fun b hb => by
  rcases hb with hb | hb
  ·exact (h.ge b (hBo b hb)).1
  ·exact Nat.le_trans h.lt hb
 have hst : ∀ b ∈ (Tc.sel js Γ).toks, b ∈ Γ.toks := fun b hb => sel_toks js Γ b hb
 refine ⟨⟨hp.below, h.av, ?_, ?_, ?_, ?_, ?_⟩, hg, ?_⟩
 ·rw [ho, List.nodup_append]
  refine ⟨hnd, hp.nd, fun a ha b hb e => ?_⟩
  subst e
  rcases hon a ha with h1 | h1
  ·exact hne a hb h1
  ·have := (h.ge a (hso a hb)).2; omega
 ·intro b hb
  rw [ho] at hb
  rcases List.mem_append.1 hb with hb | hb
  ·exact ⟨hge b (hon b hb), hlt b hb⟩
  ·exact hp.ge b hb
 ·rw [hto, List.nodup_append]
  refine ⟨htd, hp.tnd, fun a ha b hb e => ?_⟩
  subst e
  rcases htn a ha with h1 | h1
  ·exact (h.tlt a (hst a hb)).2 (hBo a h1)
  ·have := (h.tlt a (hst a hb)).1; omega
 ·intro b hb
  rw [hto] at hb
  rcases List.mem_append.1 hb with hb | hb
  ·exact hge b (htn b hb)
  ·exact hp.tge b hb
 ·intro f hf
  rcases List.mem_append.1 hf with hf | hf
  ·have hk := k.all f (List.mem_append_left _ hf)
   refine Fact.loose_holds (List.all_eq_true.1 hl f hf) hk (fun b hbt => ?_)
   have hbT : b ∈ Δ.toks := List.mem_flatMap.2 ⟨f, hf, hbt⟩
   rintro (hk' | hk')
   ·have h1 := h.av b hk'
    have h2 := hge b (htn b hbT)
    omega
   ·rw [ho] at hk'
    rcases List.mem_append.1 hk' with hk' | hk'
    ·exact (htl b hbT).2 hk'
    ·rcases htn b hbT with h1 | h1
     ·exact hne b hk' h1
     ·have := (h.ge b (hso b hk')).2; omega
  ·obtain ⟨m, hm, hmf⟩ := sel_mem js Γ f hf
   refine Fact.frame hg.size (h.all f (List.mem_of_getElem? hmf)) (fun b hb => hg.block b (h.ge b (List.mem_flatMap.2 ⟨f, List.mem_of_getElem? hmf, hb⟩)).2 (hne b (List.mem_flatMap.2 ⟨f, hf, hb⟩))) (fun j hj => hg.block j (Nat.lt_of_lt_of_le hj h.lt) (fun hm => absurd (h.ge j (hBo j hm)).1 (by omega))) (fun j hj ha => ⟨hg.block j hj (fun hm => ha (.inr (hBo j hm))), ?_⟩)
   rintro (hj' | hj')
   ·exact ha (.inl hj')
   ·rw [ho] at hj'
    rcases List.mem_append.1 hj' with hj' | hj'
    ·rcases hon j hj' with h1 | h1
     ·exact ha (.inr (hBo j h1))
     ·omega
    ·exact ha (.inr (hso j hj'))
 ·intro b hb
  rw [ho] at hb
  rcases List.mem_append.1 hb with hb | hb
  ·rcases hon b hb with h1 | h1
   ·exact .inl (hBo b h1)
   ·exact .inr h1
  ·exact .inl (hso b hb)
theorem SH.handed {Γin : Ctx} (h : SH A w0 w Γ) (is : List Nat) (hn : ndup is = true) (hin : Tc.sel is Γ = Γin) (hl : Γin.all Fact.loose = true) (ht : Γin.all (fun f => f.toks.isEmpty) = true) :
  PHanded w Γin := by
 subst hin
 refine ⟨sel_nodup is Γ hn h.nd, fun b hb => ?_, ?_, hl, fun f hf => ?_⟩
 ·obtain ⟨m, _, f, hf, hbf⟩ := sel_owns is Γ b hb
  exact (h.ge b (List.mem_flatMap.2 ⟨f, List.mem_of_getElem? hf, hbf⟩)).2
 ·simp only [Ctx.toks, List.flatMap_eq_nil_iff]
  intro f hf
  simpa using List.all_eq_true.1 ht f hf
 ·obtain ⟨m, _, hmf⟩ := sel_mem is Γ f hf
  exact Fact.loose_holds (List.all_eq_true.1 hl f hf) (h.all f (List.mem_of_getElem? hmf)) (fun _ _ h => h)
theorem SH.apart {α : Type} [Rep α] {v : Value} {x : α} (h : SH A w0 w Γ) (is : List Nat) (hB : (Tc.sel is Γ).owns = B) (hr : Rd (fun k => A k ∨ k ∈ Γ.owns) w v x) : Rd (fun k => k ∈ B) w v x := by
 refine hr.weak fun k hk => .inr ?_
 rw [← hB] at hk
 obtain ⟨i, _, f, hf, hbf⟩ := sel_owns is Γ k hk
 exact List.mem_flatMap.2 ⟨f, List.mem_of_getElem? hf, hbf⟩
theorem PtrCon_of {k : Nat} {f : FuncId} {fn : Func} {body : Code} {vs : List Value} {G : Type} {v : R → G → Value} {fs : R → G → Ctx} {r : R}
  (hf : P.funcs[f]? = some fn) (hb : fn.body = some body) (hn : fn.ntmps = k) (hl : Nat.ble vs.length k = true) (hΓ : SH nowhere (bare w) w Γ) (hρ : enum 0 vs = ρ)
  (h : J P ⟨k, [], none⟩ nowhere (bare w) body (QBody P fn (Post nowhere (bare w) v (fun r x => fs r x ++ [outs w B, rest w B]))) ρ Γ E) (hE : E = some r) : PtrCon P f vs w B (v r) (fs r) :=
 ConM_of hf hb hn hl hΓ hρ h hE
def CaT (P : Program) (A : Nat → Prop) (w0 : World) (Γ : Ctx) (f : FuncId) (vs : List Value) {G : Type} (v : G → Value) (Γ' : G → Ctx) (T : List Nat) : Prop :=
 ∀ w, SH A w0 w Γ → Calls P f vs.toArray w fun e w' => ∃ x, e = .returned (v x) ∧ SH A w0 w' (Γ' x) ∧ Grow w w' T ∧ OwnNew Γ (Γ' x) w
theorem CaT_of {f : FuncId} {vs : List Value} {G : Type} {v : G → Value} {fs : G → Ctx} (is js : List Nat) (hn : ndup (js ++ is) = true) (hB : (sel is Γ).owns = B) (hl : ∀ x, (fs x).all Fact.loose = true) (h : ∀ w, SH A w0 w Γ → PtrCon P f vs w B v fs) : CaT P A w0 Γ f vs v (fun x => fs x ++ sel js Γ) B :=
 fun w hh => (h w hh).mono fun _ _ ⟨x, he, hk⟩ => ⟨x, he, hh.ptr_join is js hn hB hk (hl x)⟩
theorem JL_callT {ops : Array Oper} {rest : List Oper} {d : Nat} {f : FuncId} {args : List Operand} {ats : Array TypeId} {vs : List Value} {G : Type} {v : G → Value} {Γ' : G → Ctx} {T : List Nat}
  (hw : Wants n ρ ops ⟨some d, .call ⟨.value (.func f), args.toArray, ats⟩, ty, pos, after, g⟩) (hd : Nat.blt d n.n = true)
  (hf : ∀ args w, (callFunc f args).run P w = .ok (.enter f args) w) (hargs : evL ρ args = some vs) (hC : CaT P A w0 Γ f vs v Γ' T)
  (h : ∀ x, JL P n A w0 ops rest Q ((d, v x) :: ρ) (Γ' x) E) : JL P n A w0 ops (⟨some d, .call ⟨.value (.func f), args.toArray, ats⟩, ty, pos, after, g⟩ :: rest) Q ρ Γ E := by
 intro r hr a w hs hh
 refine wpList_step fun K hK => ?_
 rw [hw a hs]
 simp only [if_true]
 unfold Oper.wp
 rw [run_mark hs hf hargs, Oper.upon_enter]
 refine (hC w hh).mono ?_
 rintro e w' ⟨x, rfl, hh', _⟩
 exact hK _ _ (h x r hr _ _ (hs.put (by simpa [Nat.blt_eq] using hd)) hh')
theorem JO_callT {w1 : World} {Γ1 : Ctx} {ops : Array Oper} {O : List Nat} {fuel : Nat} {listed : Array Bool} {i d : Nat} {f : FuncId} {args : List Operand} {ats : Array TypeId} {vs : List Value} {G : Type} {v : G → Value} {Γ' : G → Ctx} {T : List Nat}
  (hi : ops[i]? = some ⟨some d, .call ⟨.value (.func f), args.toArray, ats⟩, ty, pos, after, g⟩) (hw : Wants n ρ ops ⟨some d, .call ⟨.value (.func f), args.toArray, ats⟩, ty, pos, after, g⟩) (hd : Nat.blt d n.n = true)
  (hf : ∀ args w, (callFunc f args).run P w = .ok (.enter f args) w) (hargs : evL ρ args = some vs) (hC : CaT P A w0 Γ f vs v Γ' T) (hT : ∀ k ∈ T, k ∈ O)
  (h : ∀ x, JD P n A w0 w1 Γ1 ops O fuel (listed.setIfInBounds i true) Q ((d, v x) :: ρ) (Γ' x) E) : JO P n A w0 w1 Γ1 ops O fuel listed Q i ρ Γ E := by
 intro r hr' a w hsa hh hg hon
 unfold wpOp
 simp only [hi, hw a hsa, if_true]
 refine .inl ?_
 unfold Oper.wp
 rw [run_mark hsa hf hargs, Oper.upon_enter]
 refine (hC w hh).mono ?_
 rintro e w' ⟨x, rfl, hh', hgr, hno⟩
 exact ⟨hg.more hgr hT, h x r hr' _ _ (hsa.put (by simpa [Nat.blt_eq] using hd)) hh' (hg.more hgr hT) (hon.trans hg hno)⟩
theorem N_ret4 {fn : Func} {rv1 rv2 rv3 rv4 : ResultVar} {u1 u2 u3 u4 : Value} {G : Type} {v : R → G → Value} {fs : R → G → Ctx} {r : R} (hres : fn.results = #[rv1, rv2, rv3, rv4]) (hu1 : Rv P n A w0 ρ Γ rv1 u1) (hu2 : Rv P n A w0 ρ Γ rv2 u2) (hu3 : Rv P n A w0 ρ Γ rv3 u3) (hu4 : Rv P n A w0 ρ Γ rv4 u4)
  (h : ∀ w, SH A w0 w Γ → ∃ x, .tuple #[u1, u2, u3, u4] = v r x ∧ SH A w0 w (fs r x)) (hds : n.ds = [] := by rfl) : N n A w0 (QBody P fn (Post A w0 v fs)) .ret ρ Γ (some r) := by
 rintro r' hr a w hs hh
 cases hr
 refine leaves0 (hs.defers.trans hds) ⟨.tuple #[u1, u2, u3, u4], ?_, ?_⟩
 ·rw [results_rv, hres]
  simp [hu1 a w hs hh, hu2 a w hs hh, hu3 a w hs hh, hu4 a w hs hh]
 ·obtain ⟨x, hx1, hx⟩ := h w hh
  exact ⟨x, by rw [hx1], hx⟩
end
end Go.Tc
namespace Go.Tc
open Go Go.RowKit
section
variable {R : Type} {P : Program} {n : Fr} {A : Nat → Prop} {w0 : World} {Q : R → Exit → Act → World → Prop} {ρ ρ' : Env} {Γ Γ' : Ctx} {E : Option R}
variable {d : Option Nat} {ty : TypeId} {pos : String} {after : Array Edge} {g : Option (Nat × Bool)}
end
section
variable {P : Program} {w : World}
end
end Go.Tc
namespace Go.Tc
open Go Go.RowKit
section
variable {α S R0 : Type}
open Classical in
end
section
variable {R R0 S G : Type} {P : Program} {n : Fr} {A : Nat → Prop} {w0 w w' : World} {Q : R → Exit → Act → World → Prop} {ρ ρ' : Env} {Γ Γ' : Ctx} {E : Option R}
variable {ty : TypeId} {pos : String} {after : Array Edge} {g : Option (Nat × Bool)}
variable {κ ν : Type} {enc : κ → Value} {venc : ν → Value}
def Ents (enc : κ → Value) (venc : ν → Value) (m : List (κ × ν)) (es : Array MapEntry) (clock : Nat) : Prop :=
 es.toList.map (fun e => (e.key, e.val)) = m.map (fun p => (enc p.1, venc p.2)) ∧ Stamps es clock
theorem Ents.len {m : List (κ × ν)} {es : Array MapEntry} {clock : Nat} (h : Ents enc venc m es clock) : es.toList.length = m.length := by
 have := congrArg List.length h.1
 simpa using this
end
end Go.Tc
namespace Go.Tc
open Go Go.RowKit
section
variable {α : Type}
theorem tks_append (l m : List (Tk α)) : tks (l ++ m) = tks l ++ tks m := by simp [tks]
def tlB (ts : List (Tk α)) (k : Int) : List Nat := tks (ts.drop k.toNat)
theorem tks_drop (ts : List (Tk α)) (n : Nat) : (tks (ts.drop n)).Sublist (tks ts) := by
 have : tks ts = tks (ts.take n) ++ tks (ts.drop n) := by rw [← tks_append, List.take_append_drop]
 rw [this]
 exact List.sublist_append_right _ _
end
section
variable {R : Type} {P : Program} {n : Fr} {A : Nat → Prop} {w0 w w' : World} {Q : R → Exit → Act → World → Prop} {ρ ρ' : Env} {Γ Γ' : Ctx} {E : Option R}
variable {d : Option Nat} {ty : TypeId} {pos : String} {after : Array Edge} {g : Option (Nat × Bool)}
abbrev hld (B : List Nat) : Fact := .tkn (.int .i64 0) (0 : Int) B
theorem SH.tail {α : Type} [Rep α] {e : TypeId} {v : Value} {xs : List α} {B : List Nat} (h : SH A w0 w Γ) (i : Nat) (hi : Γ[i]? = some (.od e v xs B)) (k : Int) :
  ∃ ts : List (Tk α), dats ts = xs ∧ ts.length ≤ maxLen ∧ SH A w0 w (hld (tlB ts k) :: .rd v ts :: Γ.set i (.rd v xs)) := by
 have hli := (List.getElem?_eq_some_iff.1 hi).1
 obtain ⟨⟨cells, B0, ho1, _, _, _⟩, h3⟩ := h.get i hi
 obtain ⟨ts, e1, e2, e4, h1⟩ := h.od_down i hi
 have hlen : ts.length ≤ maxLen := by
  rw [← dats_length, e1]
  rcases ho1.2 with ⟨_, h0⟩ | ⟨_, cap, _, _, _, _, hc, hm, _, _⟩
  ·omega
  ·omega
 have h5 := (h.od_ow i hi).freeze i (get_set hli)
 have h6 := h1.freeze i (get_set hli)
 rw [List.set_set] at h5 h6
 have ho : ∀ {β : Type} [Rep β] (y : β), ∃ l1 l2, Γ.owns = l1 ++ v.ownBlock.toList ++ l2 ∧ Ctx.owns (Γ.set i (.rd v y)) = l1 ++ [] ++ l2 := fun {β} _ y => owns_set (f' := .rd v y) hi
 have hoo : Ctx.owns (Γ.set i (.rd v ts)) = Ctx.owns (Γ.set i (.rd v xs)) := by
  have a := owns_set_eq (Γ := Γ.set i (.rd v ts)) (f := .rd v ts) (f' := .rd v xs) (get_set hli) rfl
  rw [List.set_set] at a
  exact a.symm
 have hrd := h6.get i (get_set hli)
 have h7 : SH A w0 w (.rd v ts :: Γ.set i (.rd v xs)) := h5.cons_rd (by rw [← hoo]; exact hrd)
 have hsub : ∀ b ∈ tlB ts k, b ∈ B := fun b hb => e4 b ((tks_drop ts _).subset hb)
 have hBt : ∀ b ∈ B, b ∈ Γ.toks := fun c hc => List.mem_flatMap.2 ⟨_, List.mem_of_getElem? hi, hc⟩
 have hsubo : ∀ b ∈ Ctx.owns (Γ.set i (.rd v xs)), b ∈ Γ.owns := fun b hb => by
  obtain ⟨l1, l2, a, c⟩ := ho xs
  rw [c] at hb
  rw [a]
  simp only [List.append_nil, List.mem_append] at hb ⊢
  rcases hb with hb | hb
  ·exact .inl (.inl hb)
  ·exact .inr hb
 refine ⟨ts, e1, hlen, ?_⟩
 refine h7.consT (Grow.refl w []) (by simp [Fact.owns]) (by simp [Fact.owns]) ⟨⟨[], ⟨[.int .i64 0], rfl, rfl, rfl⟩, by simp, by simp⟩, fun b hb => ⟨(h3 b (hsub b hb)).1, ?_⟩⟩ ?_ (fun b hb => h.tge b (hBt b (hsub b hb)))
 ·have h8 : Ctx.owns (hld (tlB ts k) :: .rd v ts :: Γ.set i (.rd v xs)) = Ctx.owns (Γ.set i (.rd v xs)) := by simp [Ctx.owns, Fact.owns]
  rw [h8]
  rintro (hk | hk)
  ·exact (h3 b (hsub b hb)).2 (.inl hk)
  ·exact (h3 b (hsub b hb)).2 (.inr (hsubo b hk))
 ·show (tlB ts k ++ Ctx.toks (.rd v ts :: Γ.set i (.rd v xs))).Nodup
  have h9 : Ctx.toks (.rd v ts :: Γ.set i (.rd v xs)) = Ctx.toks (Γ.set i (.rd v xs)) := by simp [Ctx.toks, Fact.toks]
  rw [h9]
  refine ((toks_perm (f' := .rd v xs) hi).append_left _).nodup_iff.2 ?_
  have p4 := (toks_perm0 hi).nodup_iff.1 h.tnd
  simp only [Fact.toks, List.nil_append] at p4 ⊢
  rw [List.nodup_append] at p4 ⊢
  exact ⟨e2.sublist (tks_drop ts _), p4.2.1, fun a ha b hb e => p4.2.2 a (hsub a ha) b hb e⟩
end
end Go.Tc
namespace Go.Tc
open Go Go.RowKit
section
variable {A : Nat → Prop} {w0 w w' : World} {Γ Γ' Δ : Ctx} {B : List Nat}
theorem SH.recast (h : SH A w0 w Γ) (hp : Γ'.owns.Perm Γ.owns) (hn : Γ'.toks.Nodup) (ht : ∀ b ∈ Γ'.toks, b ∈ Γ.toks) (hall : ∀ f ∈ Γ', f.holds (fun k => A k ∨ k ∈ Γ.owns) w0.heap.size w) : SH A w0 w Γ' := by
 have hm : ∀ b, b ∈ Γ'.owns ↔ b ∈ Γ.owns := fun b => hp.mem_iff
 refine ⟨h.below, h.av, hp.nodup_iff.2 h.nd, fun b hb => h.ge b ((hm b).1 hb), hn, fun b hb => h.tge b (ht b hb), ?_⟩
 have e : (fun k => A k ∨ k ∈ Γ'.owns) = (fun k => A k ∨ k ∈ Γ.owns) := by
  funext k
  rw [hm k]
 rw [e]
 exact hall
theorem DL.split {α : Type} [Rep α] {w : World} : ∀ (xs : List α) (cs : List Value) (B : List Nat) (k : Nat) (y : α), DL w cs xs B → xs[k]? = some y →
  ∃ c1 c c2 B1 Bi B2, cs = c1 ++ (c ++ c2) ∧ B = B1 ++ (Bi ++ B2) ∧ c1.length = k * Rep.sz α ∧ DL w c1 (xs.take k) B1 ∧ Rep.dc w c y Bi ∧ DL w c2 (xs.drop (k + 1)) B2
 | [], _, _, k, y, _, hk => by simp at hk
 | x :: r, _, _, 0, y, ⟨c1, c2, B1, B2, e, eB, h1, h2⟩, hk => by
  simp at hk
  subst hk e eB
  exact ⟨[], c1, c2, [], B1, B2, rfl, rfl, by simp, ⟨rfl, rfl⟩, h1, h2⟩
 | x :: r, _, _, k + 1, y, ⟨c1, c2, B1, B2, e, eB, h1, h2⟩, hk => by
  subst e eB
  obtain ⟨d1, d, d2, C1, Ci, C2, e1, e2, e3, e4, e5, e6⟩ := DL.split r c2 B2 k y h2 (by simpa using hk)
  have hl := Rep.len (Rep.dcr (A := nowhere) h1 fun _ _ h => h)
  refine ⟨c1 ++ d1, d, d2, B1 ++ C1, Ci, C2, by rw [e1]; simp, by rw [e2]; simp, by rw [List.length_append, hl, e3, Nat.add_mul]; omega, ⟨c1, d1, B1, C1, rfl, rfl, h1, e4⟩, e5, e6⟩
theorem DL.join {α : Type} [Rep α] {w : World} : ∀ (xs ys : List α) (c d : List Value) (B C : List Nat), DL w c xs B → DL w d ys C → DL w (c ++ d) (xs ++ ys) (B ++ C)
 | [], ys, _, d, _, C, ⟨e1, e2⟩, h => by subst e1 e2; exact h
 | x :: r, ys, _, d, _, C, ⟨c1, c2, B1, B2, e, eB, h1, h2⟩, h => by
  subst e eB
  exact ⟨c1, c2 ++ d, B1, B2 ++ C, by simp, by simp, h1, DL.join r ys c2 d B2 C h2 h⟩
def HR {α : Type} [Rep α] (o cap : Nat) (xs : List α) (k : Nat) (L1 L2 : List Value) (B1 B2 : List Nat) (w : World) : Prop :=
 ∃ p c1 c2 q, L1 = p ++ c1 ∧ L2 = c2 ++ q ∧ p.length = o ∧ DL w c1 (xs.take k) B1 ∧ DL w c2 (xs.drop (k + 1)) B2 ∧ xs.length ≤ cap ∧ cap ≤ maxLen ∧ o + cap * Rep.sz α ≤ L1.length + Rep.sz α + L2.length
theorem HR.frame {α : Type} [Rep α] {o cap : Nat} {xs : List α} {k : Nat} {L1 L2 : List Value} {B1 B2 : List Nat} (h : HR o cap xs k L1 L2 B1 B2 w) (hf : ∀ b ∈ B1 ++ B2, w'.heap[b]? = w.heap[b]?) : HR o cap xs k L1 L2 B1 B2 w' := by
 obtain ⟨p, c1, c2, q, e1, e2, e3, h1, h2, h3, h4⟩ := h
 exact ⟨p, c1, c2, q, e1, e2, e3, DL.frame _ _ _ h1 fun b hb => hf b (by simp [hb]), DL.frame _ _ _ h2 fun b hb => hf b (by simp [hb]), h3, h4⟩
abbrev hol {α : Type} [Rep α] (o cap : Nat) (xs : List α) (k : Nat) (L1 L2 : List Value) (B1 B2 : List Nat) : Fact := .inv (B1 ++ B2) (HR o cap xs k L1 L2 B1 B2)
theorem SH.mktok {α : Type} [Rep α] {v : Value} {xs : List α} (h : SH A w0 w Γ) (i : Nat) (hi : Γ[i]? = some (mkr v xs B)) : SH A w0 w (.tkn v xs B :: Γ.set i (.rd v xs)) := by
 have hds := h.mkd i hi
 obtain ⟨l1, l2, o1, o2⟩ := owns_set (f' := .rd v xs) hi
 simp only [Fact.owns, List.append_nil] at o1 o2
 have hn := h.nd
 rw [o1] at hn
 have hBo : ∀ b ∈ B, b ∈ Γ.owns := fun b hb => by rw [o1]; simp [hb]
 have hsub : ∀ b ∈ Ctx.owns (Γ.set i (.rd v xs)), b ∈ Γ.owns := fun b hb => by rw [o2] at hb; rw [o1]; simp only [List.mem_append] at hb ⊢; rcases hb with hb | hb <;> simp [hb]
 have hnB : ∀ b ∈ B, b ∉ Ctx.owns (Γ.set i (.rd v xs)) := fun b hb hm => by
  rw [o2] at hm
  rw [List.append_assoc, List.nodup_append] at hn
  rcases List.mem_append.1 hm with hm | hm
  ·exact hn.2.2 b hm b (by simp [hb]) rfl
  ·exact (List.nodup_append.1 hn.2.1).2.2 b hb b hm rfl
 have hA : ∀ b ∈ B, ¬ A b := fun b hb ha => by
  have := h.av b ha
  have := (h.ge b (hBo b hb)).1
  omega
 have h1 : SH A w0 w (Γ.set i (.rd v xs)) := by
  refine ⟨h.below, h.av, ?_, fun b hb => h.ge b (hsub b hb), ?_, fun b hb => ?_, ?_⟩
  ·rw [o2]
   rw [List.append_assoc, List.nodup_append] at hn
   rw [List.nodup_append]
   exact ⟨hn.1, (List.nodup_append.1 hn.2.1).2.1, fun a ha b hb => hn.2.2 a ha b (by simp [hb])⟩
  ·exact toks_less hi rfl h.tnd
  ·obtain ⟨m1, m2, t1, t2⟩ := toks_set (f' := .rd v xs) hi
   rw [t2] at hb
   exact h.tge b (by rw [t1]; simpa [Fact.toks] using hb)
  ·intro f hf
   rcases List.mem_or_eq_of_mem_set hf with hf | rfl
   ·refine Fact.frame (Nat.le_refl _) (h.all f hf) (fun _ _ => rfl) (fun _ _ => rfl) (fun k _ ha => ⟨rfl, ?_⟩)
    rintro (hk | hk)
    ·exact ha (.inl hk)
    ·exact ha (.inr (hsub k hk))
   ·exact .mk_sl (hds.rd fun b hb => by
     rintro (hk | hk)
     ·exact hA b hb hk
     ·exact hnB b hb hk)
 refine h1.consT (Grow.refl w []) (by simp [Fact.owns]) (by simp [Fact.owns]) ⟨⟨B, hds.dc, nodup_at h.nd hi, fun _ h => h⟩, fun b hb => ⟨(h.ge b (hBo b hb)).2, ?_⟩⟩ ?_ (fun b hb => (h.ge b (hBo b hb)).1)
 ·have e : Ctx.owns (.tkn v xs B :: Γ.set i (.rd v xs)) = Ctx.owns (Γ.set i (.rd v xs)) := by simp [Ctx.owns, Fact.owns]
  rw [e]
  rintro (hk | hk)
  ·exact hA b hb hk
  ·exact hnB b hb hk
 ·show (B ++ Ctx.toks (Γ.set i (.rd v xs))).Nodup
  rw [List.nodup_append]
  refine ⟨nodup_at h.nd hi, toks_less hi rfl h.tnd, fun a ha b hb e => ?_⟩
  subst e
  obtain ⟨m1, m2, t1, t2⟩ := toks_set (f' := .rd v xs) hi
  rw [t2] at hb
  exact (h.tlt a (by rw [t1]; simpa [Fact.toks] using hb)).2 (hBo a ha)
theorem mktok_owns {α : Type} [Rep α] {v : Value} {xs : List α} {i : Nat} (hi : Γ[i]? = some (mkr v xs B)) : ∀ b ∈ Ctx.owns (.tkn v xs B :: Γ.set i (.rd v xs)), b ∈ Γ.owns := fun b hb => by
 obtain ⟨l1, l2, o1, o2⟩ := owns_set (f' := .rd v xs) hi
 have e : Ctx.owns (.tkn v xs B :: Γ.set i (.rd v xs)) = Ctx.owns (Γ.set i (.rd v xs)) := by simp [Ctx.owns, Fact.owns]
 rw [e, o2] at hb
 rw [o1]
 simp only [Fact.owns, List.append_nil, List.mem_append] at hb ⊢
 rcases hb with hb | hb <;> simp [hb]
theorem SH.mk0 {α : Type} [Rep α] {v : Value} {xs : List α} (h : SH A w0 w Γ) (i : Nat) (hi : Γ[i]? = some (mkr v xs B)) : Rd nowhere w v xs := .mk_sl ((h.mkd i hi).rd fun _ _ hk => hk)
theorem SH.cv_mk {α : Type} [Rep α] {v : Value} {xs : List α} (h : SH A w0 w Γ) (i : Nat) (hi : Γ[i]? = some (mkr v xs B)) : CV v [v] := by
 rcases h.mkd i hi with ⟨_, _, ad, rfl⟩ | ⟨b, off, cap, cells, Bs, arr, t', rfl, _⟩ <;> exact cv_slice
theorem SH.ow_mk {α : Type} [Rep α] {e : TypeId} {v : Value} {xs : List α} (h : SH A w0 w Γ) (i : Nat) (hi : Γ[i]? = some (.ow e v xs)) (hf : Rep.flat α = true) : SH A w0 w (Γ.set i (mkr v xs v.ownBlock.toList)) := by
 have hnn := nodup_at h.nd hi
 refine h.set hi (Grow.refl w _) hnn (fun b hb => ⟨.inl hb, (h.ge b (List.mem_flatMap.2 ⟨_, List.mem_of_getElem? hi, hb⟩)).2⟩) ?_
 obtain ⟨cells, ho, hr⟩ := h.get i hi
 have hd := DL.flat hf _ _ hr
 have hds : DS w v xs v.ownBlock.toList := by
  rcases ho.2 with ⟨rfl, h0⟩ | ⟨g, cap, cur, rfl, hb, hg, hc, hm, hcs, htk⟩
  ·exact .inl ⟨List.eq_nil_of_length_eq_zero h0, rfl, none, rfl⟩
  ·refine .inr ⟨g, 0, cap, cells, [], cur, e, rfl, hg, hc, hm, ?_, hd, by rw [hcs, Nat.zero_add]; exact Nat.le_refl _, rfl⟩
   intro j u hj
   rw [← htk, List.getElem?_take] at hj
   split at hj
   ·simpa [World.cell?, hg] using hj
   ·simp at hj
 exact fun w2 hw2 => hds.frame hw2
theorem ow_mk_owns {α : Type} [Rep α] {e : TypeId} {v : Value} {xs : List α} {i : Nat} (hi : Γ[i]? = some (.ow e v xs)) : ∀ b ∈ Ctx.owns (Γ.set i (mkr v xs v.ownBlock.toList)), b ∈ Γ.owns := fun b hb => by
 rwa [owns_set_eq (f' := mkr v xs v.ownBlock.toList) hi rfl] at hb
theorem SH.od_mk {α : Type} [Rep α] {e : TypeId} {v : Value} {xs : List α} (h : SH A w w' [.od e v xs B]) : ∃ C, SH A w w' [mkr v xs C] := by
 obtain ⟨⟨cells, B0, ho, hd, hn, hsub⟩, hB⟩ := h.get 0 rfl
 have hl : cells.length = xs.length * Rep.sz α := ho.1
 have how : Ctx.owns [Fact.od e v xs B] = v.ownBlock.toList := by simp [Ctx.owns, Fact.owns]
 rw [how] at hB
 have hkey : ∃ C, DS w' v xs C ∧ C.Nodup ∧ (∀ b ∈ C, w.heap.size ≤ b ∧ b < w'.heap.size) := by
  rcases ho.2 with ⟨rfl, h0⟩ | ⟨g, cap, cur, rfl, hb, hg, hc, hm, hcs, htk⟩
  ·have hx : xs = [] := List.eq_nil_of_length_eq_zero h0
   exact ⟨[], .inl ⟨hx, rfl, none, rfl⟩, by simp, by simp⟩
  ·refine ⟨g :: B0, .inr ⟨g, 0, cap, cells, B0, cur, e, rfl, hg, hc, hm, ?_, hd, by rw [hcs, Nat.zero_add]; exact Nat.le_refl _, rfl⟩, ?_, ?_⟩
   ·intro j u hj
    have hlt := (List.getElem?_eq_some_iff.1 hj).1
    rw [← htk, List.getElem?_take] at hj
    split at hj
    ·simpa [World.cell?, hg] using hj
    ·simp at hj
   ·rw [List.nodup_cons]
    exact ⟨fun hm' => (hB g (hsub g hm')).2 (.inr (by simp [Value.ownBlock])), hn⟩
   ·intro b hb'
    rcases List.mem_cons.1 hb' with rfl | hb'
    ·exact h.ge b (by rw [how]; simp [Value.ownBlock])
    ·exact ⟨h.tge b (by simpa [Ctx.toks, Fact.toks] using hsub b hb'), (hB b (hsub b hb')).1⟩
 obtain ⟨C, hds, hCn, hCg⟩ := hkey
 refine ⟨C, h.below, h.av, by simpa [Ctx.owns, Fact.owns] using hCn, fun b hb => hCg b (by simpa [Ctx.owns, Fact.owns] using hb), by simp [Ctx.toks, Fact.toks], fun b hb => by simp [Ctx.toks, Fact.toks] at hb, fun f hf => ?_⟩
 simp only [List.mem_singleton] at hf
 subst hf
 exact fun w2 hw2 => hds.frame hw2
end
section
variable {R : Type} {P : Program} {n : Fr} {A : Nat → Prop} {w0 w w' : World} {Q : R → Exit → Act → World → Prop} {ρ ρ' : Env} {Γ Γ' : Ctx} {E : Option R} {B : List Nat}
variable {d : Option Nat} {ty : TypeId} {pos : String} {after : Array Edge} {g : Option (Nat × Bool)}
theorem ex_index_hole {α : Type} {x ix : Operand} {t e : TypeId} {k : IntKind} {ag : Bool} {b off cap len s : Nat} {xs : List α} {j : Int} {y : α} {L1 : List Value} (ht : P.underlying t = some (.slice e)) (he : tinf P e = some (s, ag))
  (hx : ev ρ x = some (.slice (some ⟨b, off, none⟩) len cap)) (hix : ev ρ ix = some (.int k j)) (hy : idx xs j = some y) (hl : len = xs.length) (hL : L1.length = off + j.toNat * s) :
  Ex P n A w0 ρ Γ ⟨d, .indexAddr t x ix, ty, pos, after, g⟩ (.pointer (some ⟨b, L1.length, none⟩)) := by
 rw [hL]
 exact ex_index_lit ht he hx hix hy hl
theorem sub_mk {α : Type} [Rep α] {js : List Nat} {v : Value} {xs : List α} (m : Nat) (hm : (sel js Γ)[m]? = some (mkr v xs B)) : ∀ k ∈ B, k ∈ (sel js Γ).owns := owns_sub m hm
theorem app_at {L1 L2 cs : List Value} {j : Nat} {v : Value} (h : cs[j]? = some v) : (L1 ++ cs ++ L2)[L1.length + j]? = some v := by
 have hlt := (List.getElem?_eq_some_iff.1 h).1
 rw [List.append_assoc, List.getElem?_append_right (by omega), Nat.add_sub_cancel_left, List.getElem?_append_left hlt]
 exact h
end
end Go.Tc
namespace Go.Tc
open Go Go.RowKit
def jmp (js : List Code) (k : Int) : Option Code := match k with
 | .ofNat (m + 1) => js[m]?
 | _ => none
def exOf : Option Code → Option Exit
 | none => some .normal
 | some .ret => some .ret
 | some (.exit id) => some (.exit id)
 | _ => none
structure Lp where
 fn : FuncId
 tm : Array Value
 ps : Array Tmp
 assign : Code
 body : Code
 D : Nat
def Lp.rcd (L : Lp) (st : LoopState) (pe : Option Code) : Loop := { state := st, pending := pe, fn := L.fn, tmps := L.tm, params := L.ps, assign := L.assign, body := L.body, defers := L.D }
def stOf (j : Option Code) : LoopState := if j.isNone then .ready else .done
theorem stOf_ne (j : Option Code) : stOf j ≠ .busy := by cases j <;> simp [stOf]
def lpF (l : Nat) (L : Lp) (js : List Code) (k : Int) : Fact := .inv [l] (fun w => w.heap[l]? = some (.loop (L.rcd (stOf (jmp js k)) (jmp js k))))
def lbF (l : Nat) (L : Lp) : Fact := .inv [l] (fun w => w.heap[l]? = some (.loop (L.rcd .busy none)))
def dfF (D : Nat) : Fact := .inv [D] (fun w => w.heap[D]? = some (.deferred (some [])))
def mkD (D : Nat) : Deferred := { target := .collected D, args := #[] }
structure LpOk (n : Fr) (ρ : Env) (ps : Array Tmp) (assign body : Code) (L : Lp) : Prop where
 e1 : L.ps = ps
 e2 : L.assign = assign
 e3 : L.body = body
 sat : Sat ⟨n.n, [], none⟩ ρ { tmps := L.tm, defers := [] }
section
variable {R : Type} {P : Program} {n nc : Fr} {A : Nat → Prop} {w0 w w' : World} {Q : R → Exit → Act → World → Prop} {ρ ρ' ρc : Env} {Γ Γ' : Ctx} {E : Option R}
variable {d : Option Nat} {ty : TypeId} {pos : String} {after : Array Edge} {g : Option (Nat × Bool)}
theorem SH.inv_get {B : List Nat} {I : World → Prop} (h : SH A w0 w Γ) (i : Nat) (hi : Γ[i]? = some (.inv B I)) : I w := h.get i hi w (fun _ _ => rfl)
theorem SH.inv_set {b : Nat} {I I' : World → Prop} {o : Obj} (h : SH A w0 w Γ) (i : Nat) (hi : Γ[i]? = some (.inv [b] I)) (hI : ∀ w', w'.heap[b]? = some o → I' w') :
  SH A w0 (w.putObj b o) (Γ.set i (.inv [b] I')) := by
 have hb : b ∈ Γ.owns := List.mem_flatMap.2 ⟨_, List.mem_of_getElem? hi, by simp [Fact.owns]⟩
 have hlt := (h.ge b hb).2
 have hg : Grow w (w.putObj b o) [b] := ⟨rfl, rfl, rfl, by simp, fun k _ hk => World.putObj_heap_other (by simpa using hk)⟩
 refine h.set hi hg (by simp [Fact.owns]) (fun c hc => ⟨.inl hc, ?_⟩) ?_
 ·simp [Fact.owns] at hc
  subst hc
  simpa using hlt
 ·intro w2 hw2
  refine hI w2 ?_
  rw [hw2 b (by simp)]
  exact World.putObj_heap_same hlt
theorem SH.inv_end {b : Nat} {I : World → Prop} {o : Obj} (h : SH A w0 w Γ) (i : Nat) (hi : Γ[i]? = some (.inv [b] I)) :
  SH A w0 (w.putObj b o) (Γ.set i (.pr True)) := by
 have hg : Grow w (w.putObj b o) [b] := ⟨rfl, rfl, rfl, by simp, fun k _ hk => World.putObj_heap_other (by simpa using hk)⟩
 exact h.set hi hg (by simp [Fact.owns]) (fun c hc => by simp [Fact.owns] at hc) trivial
theorem SH.inv_new {o : Obj} {I : World → Prop} (h : SH A w0 w Γ) (hI : ∀ w', w'.heap[w.heap.size]? = some o → I w') : SH A w0 (w.alloc o) (.inv [w.heap.size] I :: Γ) := by
 refine h.cons (Grow.alloc w o []) (by simp [Fact.owns]) (by simp [Fact.owns]) ?_
 intro w2 hw2
 refine hI w2 ?_
 rw [hw2 _ (by simp)]
 exact heap_alloc_new w o
def BehindF (n : Fr) (A : Nat → Prop) (w0 : World) (Q : R → Exit → Act → World → Prop) (ρ : Env) (l D : Nat) (L : Lp) (js : List Code) (K : R → Value → World → Prop) : Prop :=
 ∀ (k : Int) (e : Exit), exOf (jmp js k) = some e → ∀ (Γ' : Ctx) (E' : Option R) (i : Nat), Γ'[i]? = some (lpF l L js k) → N ⟨n.n, mkD D :: n.ds, none⟩ A w0 Q e ρ (Γ'.set i (.pr True)) E' → ∀ r, E' = some r → ∀ u w, SH A w0 w Γ' → K r u w
theorem J_rangef {g : Operand} {ps : Array Tmp} {assign body bodyI : Code} {gf nI : Nat} {fnI : Func} {lb : List Value} {ρI : Env} (js : List Code)
  (hg : ev ρ g = some (.func (.func gf) #[] lb.toArray)) (hf : ∀ args w, (callFunc gf args).run P w = .ok (.enter gf args) w)
  (hfn : P.funcs[gf]? = some fnI) (hb : fnI.body = some bodyI) (hn : fnI.ntmps = nI) (hl : Nat.ble (lb.length + 1) nI = true) (hρ : enum 1 lb = ρI)
  (h : ∀ (l D : Nat) (L : Lp) (K : R → Value → World → Prop), LpOk n ρ ps assign body L → BehindF n A w0 Q ρ l D L js K → J P ⟨nI, [], none⟩ A w0 bodyI (QInl P fnI K) ((0, .func (.yield l) #[] #[]) :: ρI) (lpF l L js 0 :: dfF D :: Γ) E)
  (ho : n.o = none := by rfl) : J P n A w0 (.rangeFunc g ps assign body) Q ρ Γ E := by
 intro r hr a w hs hh
 refine wpIn_rangeFunc fun fn _ => ?_
 obtain ⟨L, hLe⟩ : ∃ L : Lp, L = ⟨fn, a.tmps, ps, assign, body, w.heap.size⟩ := ⟨_, rfl⟩
 have hL : LpOk n ρ ps assign body L := by
  subst hLe
  exact ⟨rfl, rfl, rfl, ⟨hs.size, rfl, hs.get⟩⟩
 have h1 : SH A w0 (w.alloc (.deferred (some []))) (dfF w.heap.size :: Γ) := hh.inv_new fun _ h => h
 obtain ⟨W1, hW1⟩ : ∃ W1, (w.alloc (.deferred (some []))).alloc (.loop (L.rcd .ready none)) = W1 := ⟨_, rfl⟩
 have h2 : SH A w0 W1 (lpF (w.heap.size + 1) L js 0 :: dfF w.heap.size :: Γ) := by
  have := h1.inv_new (o := .loop (L.rcd .ready none)) (I := fun w' => w'.heap[w.heap.size + 1]? = some (.loop (L.rcd .ready none))) (fun w' h => by simpa using h)
  have e : (w.alloc (Obj.deferred (some []))).heap.size = w.heap.size + 1 := by simp
  rw [e] at this
  rw [← hW1]
  exact this
 refine ⟨w.heap.size + 1, [mkD w.heap.size], W1, { target := .fn (.func gf) lb.toArray, args := #[.func (.yield (w.heap.size + 1)) #[] #[]] }, W1, gf, #[.func (.yield (w.heap.size + 1)) #[] #[]] ++ lb.toArray, W1, ?_, ?_, fun _ _ => trivial, ?_, fun hd => by simp [Fx, Fence.wide] at hd, ?_⟩
 ·rw [show (Fx n.o).round = none from ho, ← hW1, hLe]
  exact run_enterLoop_outer _ _ _ _ _
 ·simp only [resolve, hs.eval hg]
  simp [go_sem]
 ·simp [invoke, go_sem, hf]
 ·have hc : Calls P gf (#[.func (.yield (w.heap.size + 1)) #[] #[]] ++ lb.toArray) W1
    (fun e w' => ∃ u, e = .returned u ∧ ∃ jump w₄, (Instr.endLoop (w.heap.size + 1)).run P w' = .ok jump w₄ ∧ (match jump with | none => Q r .normal { a with defers := mkD w.heap.size :: a.defers } w₄ | some c => c.wpIn (Fx n.o) 0 P (Q r) { a with defers := mkD w.heap.size :: a.defers } w₄)) := by
   refine calls_wp hfn hb ?_
   have hJ := h (w.heap.size + 1) w.heap.size L (fun r _ w' => ∃ jump w₄, (Instr.endLoop (w.heap.size + 1)).run P w' = .ok jump w₄ ∧ (match jump with | none => Q r .normal { a with defers := mkD w.heap.size :: a.defers } w₄ | some c => c.wpIn (Fx n.o) 0 P (Q r) { a with defers := mkD w.heap.size :: a.defers } w₄)) hL ?_
   ·refine hJ r hr _ _ ⟨?_, rfl, ?_⟩ h2
    ·simp [Nat.ble_eq] at hl
     simp [hn]; omega
    ·intro t u ht
     have he : ((0, Value.func (.yield (w.heap.size + 1)) #[] #[]) :: ρI) = enum 0 (.func (.yield (w.heap.size + 1)) #[] #[] :: lb) := by rw [← hρ]; rfl
     rw [he] at ht
     obtain ⟨_, h2⟩ := enum_get _ 0 t u ht
     rw [Nat.sub_zero] at h2
     have hlt := (List.getElem?_eq_some_iff.1 h2).1
     simp [Nat.ble_eq] at hl
     simp only [List.length_cons] at hlt
     refine ⟨?_, show t < nI by omega⟩
     have e2 : (#[Value.func (.yield (w.heap.size + 1)) #[] #[]] ++ lb.toArray) = (.func (.yield (w.heap.size + 1)) #[] #[] :: lb).toArray := by simp
     rw [e2, Array.getD_eq_getD_getElem?, Array.getElem?_append_left (by simpa using hlt), List.getElem?_toArray, h2]
     rfl
   ·intro k e he Γ' E' i hi hN r' hE u w' hw'
    have hl' : w'.heap[w.heap.size + 1]? = some (.loop (L.rcd (stOf (jmp js k)) (jmp js k))) := hw'.inv_get i hi
    have hrun := run_endLoop (P := P) hl' (stOf_ne _)
    refine ⟨_, _, hrun, ?_⟩
    have hs' : Sat ⟨n.n, mkD w.heap.size :: n.ds, none⟩ ρ { a with defers := mkD w.heap.size :: a.defers } := ⟨hs.size, by rw [hs.defers], hs.get⟩
    have hq := hN r' hE _ _ hs' (hw'.inv_end (o := .loop { L.rcd (stOf (jmp js k)) (jmp js k) with state := .exhausted }) i hi)
    show match jmp js k with | none => _ | some c => _
    cases hj : jmp js k with
    | none =>
     rw [hj] at he
     simp only [exOf, Option.some.injEq] at he
     subst he
     rw [hj] at hq
     exact hq
    | some c =>
     rw [hj] at he hq
     cases c <;> simp only [exOf, Option.some.injEq, reduceCtorEq] at he
     ·subst he; exact wpIn_exit hq
     ·subst he; exact wpIn_ret hq
  refine CallsIn.mono (calls_in n.o _ hc) ?_
  rintro e w' ⟨u, rfl, hu⟩
  exact hu
theorem N_inlF {fn : Func} {n2 : Fr} {ρ2 : Env} {l D : Nat} {L : Lp} {js : List Code} {K : R → Value → World → Prop} {e : Exit} (k : Int) (e' : Exit) (he : e = .ret ∨ e = .normal) (hK : BehindF n A w0 Q ρ l D L js K) (hj : exOf (jmp js k) = some e') (hres : fn.results = #[]) (i : Nat) (hi : Γ[i]? = some (lpF l L js k))
  (h : N ⟨n.n, mkD D :: n.ds, none⟩ A w0 Q e' ρ (Γ.set i (.pr True)) E) (hds : n2.ds = [] := by rfl) : N n2 A w0 (QInl P fn K) e ρ2 Γ E := by
 intro r hr a w hs hh
 have key : a.defers = [] ∧ ∃ u, (results fn a.tmps).run P w = .ok u w ∧ (∃ u', Ending.returned u = .returned u' ∧ K r u' w) := by
  refine ⟨hs.defers.trans hds, .tuple #[], ?_, _, rfl, hK k e' hj Γ E i hi h r hr _ w hh⟩
  rw [results_rv, hres]
  simp
 rcases he with rfl | rfl <;> exact leaves0 key.1 key.2
theorem operIn_map {F : Fence} {m : Nat} {o : Oper} {a : Act} {w : World} {K K' : Act → World → Prop} {Q Q' : Exit → Act → World → Prop} (hK : ∀ a w, K a w → K' a w) (hq : ∀ c a w, Q (.panic c) a w → Q' (.panic c) a w) (hO : LetsOut Q → LetsOut Q')
  (h : o.wpIn F m P a w K Q) : o.wpIn F m P a w K' Q' := by
 refine ⟨h.1, ?_⟩
 have h := h.2
 generalize (o.semAt F.round a.eval).run P w = x at h
 cases x with
 | ok n w' =>
  cases n <;> simp only [Oper.uponIn] at h ⊢ <;>
   first
    | exact hK _ _ h
    | exact ⟨h.1, CallsIn.mono h.2 (fun e w'' he => by cases e <;> first | exact hK _ _ he | exact hq _ _ _ he | exact hO he)⟩
    | exact ⟨h.1, RowsIn.mono h.2 (fun _ _ he => hK _ _ he)⟩
    | exact ⟨h.1, RoundIn.mono h.2 (fun e w'' he => by cases e <;> first | exact hK _ _ he | exact hq _ _ _ he | exact hO he)⟩
 | halt x w' => cases x <;> simp only [Oper.uponIn] at h ⊢ <;> first | exact h | exact hq _ _ _ h
def QY (P : Program) (o : Option Nat) (ops : Array Oper) (rest : List Oper) (Q : R → Exit → Act → World → Prop) : R → Exit → Act → World → Prop := fun r e a w => match e with
 | .normal => wpListIn (Fx o) 0 P ops (Q r) rest a w
 | _ => False
theorem listIn_app {F : Fence} {m : Nat} {ops : Array Oper} {Q Q' : Exit → Act → World → Prop} {rest : List Oper} (hn : ∀ a w, Q .normal a w → wpListIn F m P ops Q' rest a w) (hq : ∀ c a w, ¬ Q (.panic c) a w) (hO : ¬ LetsOut Q) : ∀ (l : List Oper) (a : Act) (w : World), wpListIn F m P ops Q l a w → wpListIn F m P ops Q' (l ++ rest) a w
 | [], _, _, h => hn _ _ h
 | o :: l, a, w, h => by
  rw [List.cons_append]
  unfold wpListIn at h ⊢
  split
  ·rename_i hw
   rw [if_pos hw] at h
   exact operIn_map (fun a w h => listIn_app hn hq hO l a w h) (fun c a w h => absurd h (hq c a w)) (fun h => absurd h hO) h
  ·rename_i hw
   rw [if_neg hw] at h
   exact ⟨h.1, listIn_app hn hq hO l _ w h.2⟩
theorem J_regionY {id : Nat} {l0 : List Oper} (k : Nat) (h : JL P n A w0 l0.toArray (l0.take k) (QY P n.o l0.toArray (l0.drop k) Q) ρ Γ E) (ho : n.o = none := by rfl) : J P n A w0 (.region id l0.toArray false) Q ρ Γ E := by
 intro r hr a w hs hh
 refine wpIn_region_lit ?_
 have h1 := list_in (r := n.o) (noP_out _) (.inl ho) a w (h r hr a w hs hh)
 have h2 := listIn_app (Q' := Q r) (rest := l0.drop k) (fun a w h => h) (fun _ _ _ h => h) (noP_out _) _ a w h1
 rwa [List.take_append_drop] at h2
def BehindY (P : Program) (n : Fr) (A : Nat → Prop) (w0 : World) (ops : Array Oper) (rest : List Oper) (Q : R → Exit → Act → World → Prop) (d : Nat) (ρ : Env) (K : R → Value → World → Prop) : Prop :=
 ∀ u Γ' E', JL P n A w0 ops rest Q ((d, u) :: ρ) Γ' E' → ∀ r, E' = some r → ∀ w, SH A w0 w Γ' → K r u w
def QAs (P : Program) (l : Nat) (body : Code) (K : R → Value → World → Prop) : R → Exit → Act → World → Prop := fun r e a w =>
 e = .normal ∧ ∃ w2, (Instr.beginRound l).run P w = .ok () w2 ∧ body.wpIn (Fx (some l)) 0 P (roundPost P l (fun e w => ∃ u, e = .returned u ∧ K r u w)) a w2
def QRd (P : Program) (l : Nat) (K : R → Value → World → Prop) : R → Exit → Act → World → Prop := fun r => roundPost P l (fun e w => ∃ u, e = .returned u ∧ K r u w)
def bindE : List Tmp → List Value → Env → Env
 | p :: ps, v :: vs, ρ => bindE ps vs ((p, v) :: ρ)
 | _, _, ρ => ρ
theorem sat_bind : ∀ (ps : List Tmp) (vs : List Value) {n : Fr} {ρ : Env} {tm : Array Value}, (ps.all fun p => Nat.blt p n.n) = true → Sat n ρ { tmps := tm, defers := [] } → Sat n (bindE ps vs ρ) { tmps := (ps.zip vs).foldl (fun t (p, v) => t.setIfInBounds p v) tm, defers := [] }
 | [], _, _, _, _, _, h => by simpa [bindE] using h
 | p :: ps, [], _, _, _, _, h => by simpa [bindE] using h
 | p :: ps, v :: vs, n, ρ, tm, hp, h => by
  simp only [List.all_cons, Bool.and_eq_true, Nat.blt_eq] at hp
  rw [bindE, List.zip_cons_cons, List.foldl_cons]
  refine sat_bind ps vs (by simpa [Nat.blt_eq] using hp.2) ?_
  have := h.put (v := v) hp.1
  simpa [Act.put] using this
theorem N_yield {l0 rest : List Oper} {k d l : Nat} {o : Operand} {args : List Operand} {ats : Array TypeId} {vs : List Value} {L : Lp} {js : List Code} {ps : List Tmp} {assign body : Code} {ρr : Env}
  (hdrop : l0.drop k = ⟨some d, .call ⟨.value o, args.toArray, ats⟩, ty, pos, after, g⟩ :: rest) (hw : Wants n ρ l0.toArray ⟨some d, .call ⟨.value o, args.toArray, ats⟩, ty, pos, after, g⟩) (hd : Nat.blt d n.n = true)
  (hy : ev ρ o = some (.func (.yield l) #[] #[])) (hargs : evL ρ args = some vs) (i : Nat) (hi : Γ[i]? = some (lpF l L js 0)) (hL : LpOk nc ρc ps.toArray assign body L) (hlen : Nat.beq vs.length ps.length = true) (hps : (ps.all fun p => Nat.blt p nc.n) = true) (hρ : bindE ps vs ρc = ρr)
  (h : ∀ K : R → Value → World → Prop, BehindY P n A w0 l0.toArray rest Q d ρ K → J P ⟨nc.n, [], some l⟩ A w0 assign (QAs P l body K) ρr Γ E) (ho : n.o = none := by rfl) : N n A w0 (QY P n.o l0.toArray (l0.drop k) Q) .normal ρ Γ E := by
 intro r hr a w hs hh
 show wpListIn (Fx n.o) 0 P l0.toArray (Q r) (l0.drop k) a w
 rw [hdrop]
 refine wpListIn_step fun K hK => ?_
 rw [hw a hs]
 simp only [if_true]
 refine ⟨fun _ _ => trivial, ?_⟩
 have hl : w.heap[l]? = some (.loop (L.rcd .ready none)) := hh.inv_get i hi
 have hln : vs.length = ps.length := Nat.eq_of_beq_eq_true hlen
 have hrun : (execOp a.eval ⟨some d, .call ⟨.value o, args.toArray, ats⟩, ty, pos, after, g⟩).run P w = .ok (.round l L.fn ((ps.zip vs).foldl (fun t (p, v) => t.setIfInBounds p v) L.tm) assign body) w := by
  have hyr := run_yield (P := P) (args := vs.toArray) hl (by show vs.toArray.size = L.ps.size; rw [hL.e1]; simp [hln])
  have e3 : (L.rcd .ready none).params = ps.toArray := hL.e1
  have e4 : (L.rcd .ready none).tmps = L.tm := rfl
  have e5 : (L.rcd .ready none).assign = assign := hL.e2
  have e6 : (L.rcd .ready none).body = body := hL.e3
  rw [e3, e4, e5, e6] at hyr
  have e7 : (ps.toArray.zip vs.toArray).foldl (fun (tmps : Array Value) (x : Tmp × Value) => match x with | (t, a) => tmps.setIfInBounds t a) L.tm = (ps.zip vs).foldl (fun t (p, v) => t.setIfInBounds p v) L.tm := by simp
  rw [e7] at hyr
  simp [execOp, resolve, Deferred.ofValue, invoke, hs.eval hy, hs.evalL hargs, hyr]
  rfl
 have hsem : (Oper.semAt (Fx n.o).round a.eval ⟨some d, .call ⟨.value o, args.toArray, ats⟩, ty, pos, after, g⟩) = execOp a.eval ⟨some d, .call ⟨.value o, args.toArray, ats⟩, ty, pos, after, g⟩ := Oper.semAt_eq _ _ _ (fun c e => by cases e)
 rw [hsem, hrun, Oper.uponIn_round]
 refine ⟨fun hdp => by simp [Fx, Fence.wide] at hdp, ?_⟩
 have hJ := h (fun r u w' => wpListIn (Fx n.o) 0 P l0.toArray (Q r) rest (a.put (some d) u) w') (fun u Γ' E' hJL r hE w hw' =>
  listIn_mono (fun _ _ _ => noP_to) _ _ _ (list_in (noP_out _) (.inl ho) _ _ (hJL r hE _ w (hs.put (by simpa [Nat.blt_eq] using hd)) hw')))
 have hR : RoundIn (Fx none) 0 P l L.fn ((ps.zip vs).foldl (fun t (p, v) => t.setIfInBounds p v) L.tm) assign body w (fun e w => ∃ u, e = .returned u ∧ wpListIn (Fx n.o) 0 P l0.toArray (Q r) rest (a.put (some d) u) w) := by
  refine roundIn_of_wpIn trivial ?_
  have hs2 : Sat ⟨nc.n, [], some l⟩ ρr { tmps := (ps.zip vs).foldl (fun t (p, v) => t.setIfInBounds p v) L.tm, defers := [] } := by
   rw [← hρ]
   have := sat_bind ps vs (n := ⟨nc.n, [], none⟩) hps hL.sat
   exact ⟨this.size, this.defers, this.get⟩
  refine Code.wpIn_mono ?_ (hJ r hr _ w hs2 hh)
  rintro e a2 w2 ⟨rfl, h3⟩
  exact h3
 rw [show Fx n.o = Fx none by rw [ho]] at *
 refine RoundIn.mono hR ?_
 rintro e w2 ⟨u, rfl, hu⟩
 exact hK _ _ hu
theorem N_begin {nr : Fr} {l : Nat} {L : Lp} {js : List Code} {body : Code} {K : R → Value → World → Prop} (i : Nat) (hi : Γ[i]? = some (lpF l L js 0)) (ho : nr.o = some l)
  (h : J P nr A w0 body (QRd P l K) ρ (Γ.set i (lbF l L)) E) : N nr A w0 (QAs P l body K) .normal ρ Γ E := by
 intro r hr a w hs hh
 have hl : w.heap[l]? = some (.loop (L.rcd .ready none)) := hh.inv_get i hi
 refine ⟨rfl, _, run_beginRound hl rfl, ?_⟩
 have := h r hr a _ hs (hh.inv_set (o := .loop { L.rcd .ready none with state := .busy }) i hi (fun _ h => h))
 rw [ho] at this
 exact this
theorem N_endRound {nr : Fr} {ops : Array Oper} {rest : List Oper} {d l : Nat} {L : Lp} {js : List Code} {K : R → Value → World → Prop} {ρr : Env} {e : Exit} (k : Int) (b : Bool) (he : exOf (jmp js k) = some e) (hb : (jmp js k).isNone = b) (i : Nat) (hi : Γ[i]? = some (lbF l L)) (hK : BehindY P n A w0 ops rest Q d ρ K)
  (h : JL P n A w0 ops rest Q ((d, .bool b) :: ρ) (Γ.set i (lpF l L js k)) E) : N nr A w0 (QRd P l K) e ρr Γ E := by
 intro r hr a w hs hh
 have hl : w.heap[l]? = some (.loop (L.rcd .busy none)) := hh.inv_get i hi
 have fin : ∀ j, jmp js k = j → ∃ v w', (Instr.endRound l j).run P w = .ok v w' ∧ ∃ u, Ending.returned v = .returned u ∧ K r u w' := by
  rintro j rfl
  have hq : K r (.bool (jmp js k).isNone) (w.putObj l (.loop { L.rcd .busy none with state := if (jmp js k).isNone then .ready else .done, pending := jmp js k })) := by
   have h' := h
   rw [← hb] at h'
   exact hK _ _ E h' r hr _ (hh.inv_set i hi (fun w' h => h))
  exact ⟨_, _, run_endRound _ hl, _, rfl, hq⟩
 cases hj : jmp js k with
 | none =>
  rw [hj] at he
  simp only [exOf, Option.some.injEq] at he
  subst he
  exact fin none hj
 | some c =>
  rw [hj] at he
  cases c <;> simp only [exOf, Option.some.injEq, reduceCtorEq] at he
  ·subst he; exact fin _ hj
  ·subst he; exact fin _ hj
theorem N_take {fn : Func} {X : R → Ending → World → Prop} {k D : Nat} {ds : List Deferred} {e : Exit} (i : Nat) (he : e = .ret ∨ e = .normal) (hi : Γ[i]? = some (dfF D))
  (h : N ⟨k, ds, none⟩ A w0 (fun r => bodyPostM (Fx none) 0 P fn (X r)) e ρ (Γ.set i (.pr True)) E) : N ⟨k, mkD D :: ds, none⟩ A w0 (fun r => bodyPostM (Fx none) 0 P fn (X r)) e ρ Γ E := by
 intro r hr a w hs hh
 have hd : w.heap[D]? = some (.deferred (some [])) := hh.inv_get i hi
 have hs' : Sat ⟨k, ds, none⟩ ρ { a with defers := ds } := ⟨hs.size, rfl, hs.get⟩
 have hq := h r hr _ _ hs' (hh.inv_end (o := .deferred none) i hi)
 have ha : a.defers = mkD D :: ds := hs.defers
 have key : LeavesInM (Fx none) 0 P fn a.tmps (X r) ds .returning (w.putObj D (.deferred none)) → LeavesInM (Fx none) 0 P fn a.tmps (X r) a.defers .returning w := by
  intro hx
  rw [ha]
  exact ⟨by simp, .inl ⟨D, _, rfl, run_takeDeferred hd, hx⟩⟩
 rcases he with rfl | rfl <;> exact key hq
theorem rv_cell1 {p : Nat} {t t' : TypeId} {b off : Nat} {cs : List Value} {v : Value} (i : Nat) (hp : ρ.get p = some (.pointer (some ⟨b, off, none⟩))) (hi : Γ[i]? = some (.bx b t' cs)) (ht : tinf P t = some (1, false)) (hc : cs[off]? = some v) : Rv P n A w0 ρ Γ (.cell p t) v := fun a w hs hh => by
 have h1 := (hs.get p _ hp).1
 have hb := hh.get i hi
 have hc2 := cell_of_bx hb hc
 simp only [rvSem, h1]
 simp [asAddr, loadVar, tinf_agg ht, run_load, hc2]
end
end Go.Tc
namespace Go.Tc
open Go Go.RowKit
def bidx (s : ByteArray) (i : Int) : Option Int := if 0 ≤ i then (s[i.toNat]?).map fun b => (b.toNat : Int) else none
def bslc (s : ByteArray) (lo hi : Int) : Option ByteArray := if 0 ≤ lo ∧ lo ≤ hi ∧ hi ≤ s.size then some (s.extract lo.toNat hi.toNat) else none
section
variable {R : Type} {P : Program} {n : Fr} {A : Nat → Prop} {w0 w : World} {Q : R → Exit → Act → World → Prop} {ρ ρ' : Env} {Γ Γ' : Ctx} {E : Option R}
variable {d : Option Nat} {ty : TypeId} {pos : String} {after : Array Edge} {g : Option (Nat × Bool)}
theorem ex_index_str {x ix : Operand} {t : TypeId} {s : ByteArray} {k : IntKind} {j y : Int} (ht : P.underlying t = some .string) (hx : ev ρ x = some (.string s)) (hix : ev ρ ix = some (.int k j)) (hy : bidx s j = some y) :
  Ex P n A w0 ρ Γ ⟨d, .index t x ix, ty, pos, after, g⟩ (.int .u8 y) := by
 intro a w hs hh
 unfold bidx at hy
 split at hy
 ·rename_i h0
  cases hb : s[j.toNat]? with
  | none => rw [hb] at hy; cases hy
  | some b =>
   rw [hb] at hy
   simp only [Option.map_some, Option.some.injEq] at hy
   subst hy
   simp [execOp, hs.eval hx, hs.eval hix, Instr.index, asIntOf, run_underlying ht, h0, hb]
 ·cases hy
theorem ex_slice_str {x : Operand} {t : TypeId} {s r : ByteArray} {lo hi : Option Operand} {l h : Int} (ht : P.underlying t = some .string) (hx : ev ρ x = some (.string s)) (hlo : bound ρ lo 0 = some l) (hhi : bound ρ hi (s.size : Int) = some h) (hy : bslc s l h = some r) :
  Ex P n A w0 ρ Γ ⟨d, .slice t x lo hi none, ty, pos, after, g⟩ (.string r) := by
 intro a w hs hh
 unfold bslc at hy
 split at hy
 ·rename_i hk
  obtain ⟨h0, h1, h2⟩ := hk
  rw [← Option.some.inj hy]
  have hb1 : 0 ≤ l ∧ l ≤ (h.toNat : Int) := ⟨h0, by omega⟩
  have hb2 : 0 ≤ h ∧ h ≤ (s.size : Int) := ⟨by omega, h2⟩
  have hb3 : 0 ≤ l ∧ l ≤ (s.size : Int) := ⟨h0, by omega⟩
  rcases bound_val hs hlo with ⟨e1, rfl⟩ | e1 <;> rcases bound_val hs hhi with ⟨e2, rfl⟩ | e2 <;>
   simp [execOp, hs.eval hx, e1, e2, Instr.sliceAt, Instr.slice, run_underlying ht, Instr.sliceBounds, Instr.sliceBound, asIntOf, hb1, hb2, hb3]
  intro hc
  exact absurd hc (by omega)
 ·cases hy
end
end Go.Tc
namespace Go.Tc
open Go Go.RowKit
section
variable {R : Type} {P : Program} {n : Fr} {A : Nat → Prop} {w0 w w1 w' : World} {Q : R → Exit → Act → World → Prop} {ρ ρ' : Env} {Γ Γ' : Ctx} {E : Option R}
variable {d : Option Nat} {ty : TypeId} {pos : String} {after : Array Edge} {g : Option (Nat × Bool)}
end
section
variable {R : Type} {P : Program} {n : Fr} {A : Nat → Prop} {w0 w1 : World} {Q : R → Exit → Act → World → Prop} {ρ ρ' : Env} {Γ Γ' Γ1 : Ctx} {E : Option R} {ops : Array Oper} {O : List Nat} {fuel : Nat} {listed : Array Bool}
end
end Go.Tc
namespace Go.Tc
open Go Go.RowKit
section
variable {R : Type} {P : Program} {n : Fr} {A : Nat → Prop} {w0 w w1 w' : World} {Q : R → Exit → Act → World → Prop} {ρ ρ' : Env} {Γ Γ' : Ctx} {E : Option R}
variable {d : Option Nat} {ty : TypeId} {pos : String} {after : Array Edge} {g : Option (Nat × Bool)}
end
end Go.Tc
namespace Go.Tc
open Go Go.RowKit
section
variable {R : Type} {P : Program} {n : Fr} {A : Nat → Prop} {w0 w w1 w' : World} {Q : R → Exit → Act → World → Prop} {ρ ρ' : Env} {Γ Γ' : Ctx} {E : Option R}
variable {d : Option Nat} {ty : TypeId} {pos : String} {after : Array Edge} {g : Option (Nat × Bool)}
end
end Go.Tc
namespace Go.Tc
open Go
section
variable {R : Type} {P : Program} {n : Fr} {A : Nat → Prop} {w0 w w' : World} {Q : R → Exit → Act → World → Prop} {ρ ρ' : Env} {Γ Γ' Δ : Ctx} {E : Option R} {B : List Nat}
variable {d : Option Nat} {ty : TypeId} {pos : String} {after : Array Edge} {g : Option (Nat × Bool)}
theorem J_if_cf {x y : Code} (h : J P n A w0 y Q ρ Γ E) : J P n A w0 (.cond (.const (.bool false)) x y) Q ρ Γ E := by
 intro r hr a w hs hh
 exact wpIn_cond_false (hs.eval (x := .const (.bool false)) rfl) (h r hr a w hs hh)
end
end Go.Tc
namespace Go.Tc
open Go Go.RowKit
section
variable {A : Nat → Prop} {w0 w w' : World} {Γ Γ' Δ : Ctx} {B : List Nat}
theorem SH.hole1_open {β : Type} [Rep β] {b o cap : Nat} {xs : List (List β)} {k : Int} {y : List β} (h : SH A w0 w Γ) (i : Nat) (hi : Γ[i]? = some (mkr (.slice (some ⟨b, o, none⟩) xs.length cap) xs B)) (hy : idx xs k = some y) :
  ∃ L1 L2 v0 C0 B1 B2 t, L1.length = o + k.toNat * 1 ∧ B = b :: (B1 ++ (C0 ++ B2)) ∧ SH A w0 w (.bx b t (L1 ++ [v0] ++ L2) :: mkr v0 y C0 :: hol o cap xs k.toNat L1 L2 B1 B2 :: Γ.set i (.pr True)) := by
 obtain ⟨hk0, hlt, hy'⟩ := idx_eq hy
 rcases h.mkd i hi with ⟨rfl, _⟩ | ⟨b', off', cap', cells, Bs, arr, t', hv, hb, h3, h4, h5, h6, h7, hB⟩
 ·simp at hlt
 simp only [Value.slice.injEq, Option.some.injEq, Addr.mk.injEq, and_true] at hv
 obtain ⟨⟨rfl, rfl⟩, _, rfl⟩ := hv
 obtain ⟨c1, e, c2, B1, Bi, B2, e1, e2, e3, e4, e5, e6⟩ := DL.split xs cells Bs k.toNat y h6 hy'
 obtain ⟨v0, f1, f3⟩ := e5
 subst f1 e1 e2 hB
 have hcell : ∀ j, j < (c1 ++ ([v0] ++ c2)).length → arr.toList[o + j]? = (c1 ++ ([v0] ++ c2))[j]? := by
  intro j hj
  have := h5 j _ (List.getElem?_eq_getElem hj)
  simp only [World.cell?, hb] at this
  rw [List.getElem?_eq_getElem hj, ← this]
  simp
 have ho : o + (c1 ++ ([v0] ++ c2)).length ≤ arr.toList.length := by
  have hpos : 0 < (c1 ++ ([v0] ++ c2)).length := by simp; omega
  have := hcell ((c1 ++ ([v0] ++ c2)).length - 1) (by omega)
  rw [List.getElem?_eq_getElem (by omega : (c1 ++ ([v0] ++ c2)).length - 1 < (c1 ++ ([v0] ++ c2)).length)] at this
  have := (List.getElem?_eq_some_iff.1 this).1
  omega
 have harr : arr.toList = arr.toList.take o ++ c1 ++ [v0] ++ (c2 ++ arr.toList.drop (o + (c1 ++ ([v0] ++ c2)).length)) := by
  have hmid : (arr.toList.drop o).take (c1 ++ ([v0] ++ c2)).length = c1 ++ ([v0] ++ c2) := by
   apply List.ext_getElem?
   intro j
   rw [List.getElem?_take]
   by_cases hj : j < (c1 ++ ([v0] ++ c2)).length
   ·rw [if_pos hj, List.getElem?_drop, hcell j hj]
   ·rw [if_neg hj, List.getElem?_eq_none (by omega)]
  have : arr.toList = arr.toList.take o ++ ((arr.toList.drop o).take (c1 ++ ([v0] ++ c2)).length ++ (arr.toList.drop o).drop (c1 ++ ([v0] ++ c2)).length) := by
   rw [List.take_append_drop, List.take_append_drop]
  rw [hmid, List.drop_drop] at this
  simpa using this
 have hpl : (arr.toList.take o).length = o := by
  simp only [List.length_take]
  omega
 have hn : (b :: (B1 ++ (Bi ++ B2))).Nodup := nodup_at h.nd hi
 obtain ⟨l1, l2, o1, o2⟩ := owns_set (f' := .pr True) hi
 refine ⟨arr.toList.take o ++ c1, c2 ++ arr.toList.drop (o + (c1 ++ ([v0] ++ c2)).length), v0, Bi, B1, B2, t', by rw [List.length_append, hpl, e3]; rfl, rfl, ?_⟩
 refine h.recast ?_ ?_ ?_ ?_
 ·have e : Ctx.owns (.bx b t' (arr.toList.take o ++ c1 ++ [v0] ++ (c2 ++ arr.toList.drop (o + (c1 ++ ([v0] ++ c2)).length))) :: mkr v0 y Bi :: hol o cap xs k.toNat (arr.toList.take o ++ c1) (c2 ++ arr.toList.drop (o + (c1 ++ ([v0] ++ c2)).length)) B1 B2 :: Γ.set i (.pr True)) = [b] ++ (Bi ++ ((B1 ++ B2) ++ Ctx.owns (Γ.set i (.pr True)))) := by
   simp [Ctx.owns, Fact.owns]
  rw [e, o1, o2]
  simp only [Fact.owns, List.append_nil]
  have p1 : ([b] ++ (Bi ++ ((B1 ++ B2) ++ (l1 ++ l2)))).Perm ((b :: (B1 ++ (Bi ++ B2))) ++ (l1 ++ l2)) := by
   simp only [List.singleton_append, List.cons_append]
   refine List.Perm.cons b ?_
   have : (Bi ++ ((B1 ++ B2) ++ (l1 ++ l2))) = (Bi) ++ B1 ++ (B2 ++ (l1 ++ l2)) := by simp
   rw [this]
   have e2 : B1 ++ (Bi ++ B2) ++ (l1 ++ l2) = B1 ++ (Bi) ++ (B2 ++ (l1 ++ l2)) := by simp
   rw [e2]
   exact List.perm_append_comm.append_right _
  refine p1.trans ?_
  have p2 : ((b :: (B1 ++ (Bi ++ B2))) ++ (l1 ++ l2)).Perm (l1 ++ (b :: (B1 ++ (Bi ++ B2))) ++ l2) := by
   rw [← List.append_assoc]
   exact List.perm_append_comm.append_right _
  exact p2
 ·have e : Ctx.toks (.bx b t' (arr.toList.take o ++ c1 ++ [v0] ++ (c2 ++ arr.toList.drop (o + (c1 ++ ([v0] ++ c2)).length))) :: mkr v0 y Bi :: hol o cap xs k.toNat (arr.toList.take o ++ c1) (c2 ++ arr.toList.drop (o + (c1 ++ ([v0] ++ c2)).length)) B1 B2 :: Γ.set i (.pr True)) = Ctx.toks (Γ.set i (.pr True)) := by simp [Ctx.toks, Fact.toks]
  rw [e]
  exact toks_less hi rfl h.tnd
 ·intro b' hb'
  have e : Ctx.toks (.bx b t' (arr.toList.take o ++ c1 ++ [v0] ++ (c2 ++ arr.toList.drop (o + (c1 ++ ([v0] ++ c2)).length))) :: mkr v0 y Bi :: hol o cap xs k.toNat (arr.toList.take o ++ c1) (c2 ++ arr.toList.drop (o + (c1 ++ ([v0] ++ c2)).length)) B1 B2 :: Γ.set i (.pr True)) = Ctx.toks (Γ.set i (.pr True)) := by simp [Ctx.toks, Fact.toks]
  rw [e] at hb'
  obtain ⟨m1, m2, t1, t2⟩ := toks_set (f' := .pr True) hi
  rw [t2] at hb'
  rw [t1]
  simpa [Fact.toks] using hb'
 ·intro f hf
  simp only [List.mem_cons] at hf
  rcases hf with rfl | rfl | rfl | hf
  ·show w.heap[b]? = _
   rw [hb]
   congr 2
   apply Array.ext'
   simpa using harr
  ·exact fun w2 hw2 => f3.frame hw2
  ·exact fun w2 hw2 => HR.frame ⟨_, _, _, _, rfl, rfl, hpl, e4, e6, h3, h4, by have hl1 : Rep.sz (List β) = 1 := rfl; simp only [hl1] at h7 ⊢; have hz := congrArg List.length harr; simp only [List.length_append, List.length_cons, List.length_nil, Array.length_toList] at hz ⊢; omega⟩ hw2
  ·rcases List.mem_or_eq_of_mem_set hf with hf | rfl
   ·exact h.all f hf
   ·trivial
theorem SH.hole1_close {β : Type} [Rep β] {b o cap k : Nat} {t : TypeId} {xs : List (List β)} {y' : List β} {L1 L2 : List Value} {v0 : Value} {C0 B1 B2 : List Nat} (hk : k < xs.length)
  (h : SH A w0 w (.bx b t (L1 ++ [v0] ++ L2) :: mkr v0 y' C0 :: hol o cap xs k L1 L2 B1 B2 :: Γ)) : SH A w0 w (mkr (.slice (some ⟨b, o, none⟩) xs.length cap) (xs.set k y') (b :: (B1 ++ (C0 ++ B2))) :: Γ) := by
 have hb : w.heap[b]? = some (.cells (L1 ++ [v0] ++ L2).toArray t (0, 0)) := h.get 0 rfl
 have h0 : DS w v0 y' C0 := h.mkd 1 rfl
 obtain ⟨p, c1, c2, q, e1, e2, e3, d1, d2, hc, hm, hroom⟩ : HR o cap xs k L1 L2 B1 B2 w := h.get 2 rfl w (fun _ _ => rfl)
 have hds : DS w (.slice (some ⟨b, o, none⟩) xs.length cap) (xs.set k y') (b :: (B1 ++ (C0 ++ B2))) := by
  refine .inr ⟨b, o, cap, c1 ++ ([v0] ++ c2), B1 ++ (C0 ++ B2), _, t, by simp, hb, by simpa using hc, hm, ?_, ?_, ?_, rfl⟩
  ·intro j u hj
   simp only [World.cell?, hb, e1, e2, ← e3]
   simp only [List.append_assoc] at hj ⊢
   have : (p ++ (c1 ++ ([v0] ++ (c2 ++ q))))[p.length + j]? = some u := by
    rw [List.getElem?_append_right (by omega), Nat.add_sub_cancel_left]
    have hlt := (List.getElem?_eq_some_iff.1 hj).1
    rw [show c1 ++ ([v0] ++ (c2 ++ q)) = (c1 ++ ([v0] ++ c2)) ++ q by simp, List.getElem?_append_left hlt]
    exact hj
   simpa using this
  ·rw [List.set_eq_take_append_cons_drop, if_pos hk]
   refine DL.join _ _ _ _ _ _ d1 ⟨[v0], c2, C0, B2, rfl, rfl, ⟨v0, rfl, h0⟩, d2⟩
  ·have hl : Rep.sz (List β) = 1 := rfl
   simp [hl] at hroom ⊢
   omega
 refine h.recast ?_ ?_ ?_ ?_
 ·have e : Ctx.owns (.bx b t (L1 ++ [v0] ++ L2) :: mkr v0 y' C0 :: hol o cap xs k L1 L2 B1 B2 :: Γ) = [b] ++ (C0 ++ ((B1 ++ B2) ++ Γ.owns)) := by simp [Ctx.owns, Fact.owns]
  have e' : Ctx.owns (mkr (.slice (some ⟨b, o, none⟩) xs.length cap) (xs.set k y') (b :: (B1 ++ (C0 ++ B2))) :: Γ) = b :: (B1 ++ (C0 ++ B2) ++ Γ.owns) := by simp [Ctx.owns, Fact.owns]
  rw [e, e']
  simp only [List.singleton_append]
  refine List.Perm.cons b ?_
  have e3 : (C0 ++ ((B1 ++ B2) ++ Γ.owns)) = C0 ++ B1 ++ (B2 ++ Γ.owns) := by simp
  have e4 : B1 ++ (C0 ++ B2) ++ Γ.owns = B1 ++ C0 ++ (B2 ++ Γ.owns) := by simp
  rw [e3, e4]
  exact List.perm_append_comm.append_right _
 ·have := h.tnd
  simpa [Ctx.toks, Fact.toks] using this
 ·intro b' hb'
  simpa [Ctx.toks, Fact.toks] using hb'
 ·intro f hf
  rcases List.mem_cons.1 hf with rfl | hf
  ·exact fun w2 hw2 => hds.frame hw2
  ·exact h.all f (by simp [hf])
theorem SH.od_mkD {α : Type} [Rep α] {e : TypeId} {v : Value} {xs : List α} {Δ : Ctx} (h : SH A w0 w Γ) (i : Nat) (hi : Γ[i]? = some (.od e v xs B))
  (js : List Nat) (hn : ndup (i :: js) = true) (hrob : (Tc.sel js Γ).all Fact.robust = true) (hΔ : SH A w0 w0 Δ) (hΔo : Δ.all (fun f => f.owns.isEmpty && f.toks.isEmpty) = true) :
  ∃ C, SH A w0 w (mkr v xs C :: (Δ ++ Tc.sel js Γ)) := by
 have hn' := hn
 simp only [ndup, Bool.and_eq_true, Bool.not_eq_true', List.any_eq_false] at hn'
 have hne : ∀ k ∈ js, k ≠ i := fun k hk e => hn'.1 k hk (by subst e; exact Nat.beq_refl k)
 have hsel := h.sel js hn'.2
 have hBt : ∀ b ∈ B, b ∈ Γ.toks := fun b hb => List.mem_flatMap.2 ⟨_, List.mem_of_getElem? hi, hb⟩
 have hvo : ∀ b ∈ v.ownBlock.toList, b ∈ Γ.owns := fun b hb => List.mem_flatMap.2 ⟨_, List.mem_of_getElem? hi, hb⟩
 obtain ⟨how, hB⟩ := h.get i hi
 have hvB : ∀ b ∈ v.ownBlock.toList, b ∉ B := fun b hb hb' => (h.tlt b (hBt b hb')).2 (hvo b hb)
 obtain ⟨C, hdc, hCn, hCs⟩ := how.dn hvB
 have hC : ∀ b ∈ C, b ∈ v.ownBlock.toList ∨ b ∈ B := fun b hb => List.mem_append.1 (hCs b hb)
 have hCge : ∀ b ∈ C, w0.heap.size ≤ b ∧ b < w.heap.size := fun b hb => by
  rcases hC b hb with hb | hb
  ·exact h.ge b (hvo b hb)
  ·exact ⟨h.tge b (hBt b hb), (h.tlt b (hBt b hb)).1⟩
 have hCA : ∀ f ∈ Tc.sel js Γ, ∀ b ∈ f.owns, b ∉ C := fun f hf b hb hbc => by
  obtain ⟨m, hm, hmf⟩ := sel_mem js Γ f hf
  rcases hC b hbc with hv | hv
  ·exact nodup_twoG (g := Fact.owns) h.nd hmf hi (hne m hm) hb hv
  ·exact (h.tlt b (hBt b hv)).2 (List.mem_flatMap.2 ⟨f, List.mem_of_getElem? hmf, hb⟩)
 have hCT : ∀ f ∈ Tc.sel js Γ, ∀ b ∈ f.toks, b ∉ C := fun f hf b hb hbc => by
  obtain ⟨m, hm, hmf⟩ := sel_mem js Γ f hf
  have hbt : b ∈ Γ.toks := List.mem_flatMap.2 ⟨f, List.mem_of_getElem? hmf, hb⟩
  rcases hC b hbc with hv | hv
  ·exact (h.tlt b hbt).2 (hvo b hv)
  ·exact nodup_twoG (g := Fact.toks) h.tnd hmf hi (hne m hm) hb hv
 have hem : ∀ f ∈ Δ, f.owns = [] ∧ f.toks = [] := fun f hf => by
  have := List.all_eq_true.1 hΔo f hf
  simpa using this
 have hto : Ctx.toks (mkr v xs C :: (Δ ++ Tc.sel js Γ)) = (Tc.sel js Γ).toks := by
  have : Ctx.toks Δ = [] := by
   simp only [Ctx.toks, List.flatMap_eq_nil_iff]
   exact fun f hf => (hem f hf).2
  simp only [Ctx.toks, List.flatMap_append, List.flatMap_cons, Fact.toks, List.nil_append] at this ⊢
  rw [this, List.nil_append]
 have hoo : Ctx.owns (mkr v xs C :: (Δ ++ Tc.sel js Γ)) = C ++ (Tc.sel js Γ).owns := by
  have : Ctx.owns Δ = [] := by
   simp only [Ctx.owns, List.flatMap_eq_nil_iff]
   exact fun f hf => (hem f hf).1
  simp only [Ctx.owns, List.flatMap_append, List.flatMap_cons, Fact.owns] at this ⊢
  rw [this, List.nil_append]
 refine ⟨C, h.below, h.av, ?_, ?_, by rw [hto]; exact hsel.tnd, by rw [hto]; exact hsel.tge, ?_⟩
 ·rw [hoo, List.nodup_append]
  refine ⟨hCn, hsel.nd, fun a ha b hb e => ?_⟩
  subst e
  obtain ⟨f, hf, hbf⟩ := List.mem_flatMap.1 hb
  exact hCA f hf a hbf ha
 ·intro b hb
  rw [hoo] at hb
  rcases List.mem_append.1 hb with hb | hb
  ·exact hCge b hb
  ·exact hsel.ge b hb
 ·rw [hoo]
  intro f hf
  rcases List.mem_cons.1 hf with rfl | hf
  ·exact fun w2 hw2 => hdc.ds.frame hw2
  ·rcases List.mem_append.1 hf with hf | hf
   ·refine Fact.frame h.below.size (hΔ.all f hf) (fun b hb => by rw [(hem f hf).1] at hb; simp at hb) (fun k hk => h.below.block k hk) (fun k hk ha => ⟨h.below.block k hk, ?_⟩)
    rintro (hk' | hk')
    ·exact ha (.inl hk')
    ·rcases List.mem_append.1 hk' with hk' | hk'
     ·have := (hCge k hk').1; omega
     ·have := (hsel.ge k hk').1; omega
   ·refine Fact.robust_frame (List.all_eq_true.1 hrob f hf) (hsel.all f hf) (fun b _ => rfl) (fun b hb => ⟨rfl, ?_⟩)
    have h1 := (Fact.tok_lt (hsel.all f hf) b hb).2
    rintro (hk | hk)
    ·exact h1 (.inl hk)
    ·rcases List.mem_append.1 hk with hk | hk
     ·exact hCT f hf b hb hk
     ·exact h1 (.inr hk)
end
section
variable {R : Type} {P : Program} {n : Fr} {A : Nat → Prop} {w0 w w' : World} {Q : R → Exit → Act → World → Prop} {ρ ρ' : Env} {Γ Γ' : Ctx} {E : Option R} {B : List Nat}
variable {d : Option Nat} {ty : TypeId} {pos : String} {after : Array Edge} {g : Option (Nat × Bool)}
theorem J_od_mk {α : Type} [Rep α] {c : Code} {e : TypeId} {v : Value} {xs : List α} {Δ : Ctx} (i : Nat) (js : List Nat) (hi : Γ[i]? = some (.od e v xs B)) (hn : ndup (i :: js) = true) (hrob : (Tc.sel js Γ).all Fact.robust = true)
  (hΔ : SH A w0 w0 Δ) (hΔo : Δ.all (fun f => f.owns.isEmpty && f.toks.isEmpty) = true) (h : ∀ C, J P n A w0 c Q ρ (mkr v xs C :: (Δ ++ Tc.sel js Γ)) E) : J P n A w0 c Q ρ Γ E := by
 intro r hr a w hs hh
 obtain ⟨C, hk⟩ := hh.od_mkD i hi js hn hrob hΔ hΔo
 exact h C r hr a w hs hk
theorem J_mk_open {α : Type} [Rep α] {c : Code} {v : Value} {xs : List α} {j : Int} {y : α} (i : Nat) (hi : Γ[i]? = some (mkr v xs B)) (hj : idx xs j = some y)
  (h : ∀ b off cap, v = .slice (some ⟨b, off, none⟩) xs.length cap → J P n A w0 c Q ρ Γ E) : J P n A w0 c Q ρ Γ E := by
 intro r hr a w hs hh
 rcases hh.mkd i hi with ⟨rfl, _⟩ | ⟨b, off, cap, cells, Bs, arr, t', hv, _⟩
 ·have := (idx_eq hj).2.1
  simp at this
 ·exact h b off cap hv r hr a w hs hh
theorem J_hole1 {β : Type} [Rep β] {c : Code} {b o cap len : Nat} {xs : List (List β)} {k : Int} {y : List β} (i : Nat) (hi : Γ[i]? = some (mkr (.slice (some ⟨b, o, none⟩) len cap) xs B)) (hl : len = xs.length) (hy : idx xs k = some y)
  (h : ∀ L1 L2 v0 C0 B1 B2 t, L1.length = o + k.toNat * 1 → J P n A w0 c Q ρ (.bx b t (L1 ++ [v0] ++ L2) :: mkr v0 y C0 :: hol o cap xs k.toNat L1 L2 B1 B2 :: Γ.set i (.pr True)) E) : J P n A w0 c Q ρ Γ E := by
 intro r hr a w hs hh
 subst hl
 obtain ⟨L1, L2, v0, C0, B1, B2, t, e1, _, hk⟩ := hh.hole1_open i hi hy
 exact h L1 L2 v0 C0 B1 B2 t e1 r hr a w hs hk
theorem run_append_room_off {t ty e : TypeId} {i : TypeInfo} {w : World} (ht : P.underlying t = some (.slice e)) (hi : P.info? e = some i)
  {g off sLen sCap : Nat} {cur : Array Value} {t' : TypeId} (hg : w.heap[g]? = some (.cells cur t' (0, 0)))
  {a : Addr} {m c : Nat} {news : List Value} (hl : news.length = m * i.size) (hnews : ∀ j u, news[j]? = some u → w.cell? (a.add j) = some u) (h1 : ∀ u ∈ news, u.oneCell' = true)
  (hroom : sLen + m ≤ sCap) (hfit : off + sLen * i.size + news.length ≤ cur.size) :
  (Builtin.append_ #[t, t] ty #[.slice (some ⟨g, off, none⟩) sLen sCap, .slice (some a) m c]).run P w =
   .ok (.slice (some ⟨g, off, none⟩) (sLen + m) sCap) (w.setRow g (cur.toList.take (off + sLen * i.size) ++ news ++ cur.toList.drop (off + sLen * i.size + news.length)).toArray) := by
 have hf := run_firstCells_some (P := P) w i.size m a m c news hl hnews
 have hst := run_storeCells_at P g (off + sLen * i.size) t' news 0 cur w hg (by simpa using hfit) h1
 simp only [Nat.add_zero] at hst
 simp [Builtin.append_, run_underlying ht, sizeOf, typeInfo, hi, Builtin.lenOf, hroom, hf, Addr.add_lit, hst]
theorem SH.hole1_closeL {β : Type} [Rep β] {b o cap k len : Nat} {t : TypeId} {xs : List (List β)} {y' : List β} {L1 L2 : List Value} {v0 : Value} {C0 B1 B2 : List Nat} (hk : k < xs.length) (hl : len = xs.length)
  (h : SH A w0 w (.bx b t (L1 ++ [v0] ++ L2) :: mkr v0 y' C0 :: hol o cap xs k L1 L2 B1 B2 :: Γ)) : SH A w0 w (mkr (.slice (some ⟨b, o, none⟩) len cap) (xs.set k y') (b :: (B1 ++ (C0 ++ B2))) :: Γ) := by
 subst hl
 exact h.hole1_close hk
theorem app_fit0 {L1 L2 : List Value} {v u : Value} : Nat.ble (L1.length + [u].length) (L1 ++ [v] ++ L2).length = true := by
 rw [Nat.ble_eq]
 simp
theorem app_set0 {L1 L2 : List Value} {v u : Value} : (L1 ++ [v] ++ L2).take L1.length ++ [u] ++ (L1 ++ [v] ++ L2).drop (L1.length + [u].length) = L1 ++ [u] ++ L2 := by
 have e1 : (L1 ++ [v] ++ L2).take L1.length = L1 := by
  rw [List.append_assoc, List.take_left]
 have e2 : (L1 ++ [v] ++ L2).drop (L1.length + [u].length) = L2 := by
  rw [List.append_assoc, List.drop_length_add_append]
  rfl
 rw [e1, e2]
theorem idx_at {α : Type} {xs : List α} {k k' : Int} {y : α} (h : k = k') (hy : idx xs k = some y) : idx xs k' = some y := h ▸ hy
theorem len_at {n o s : Nat} {k k' : Int} (h : k = k') (hL : n = o + k.toNat * s) : n = o + k'.toNat * s := h ▸ hL
theorem ex_load_mk_int {x : Operand} {t : TypeId} {b off cap len : Nat} {xs : List Int} {j y : Int} (i : Nat) (ht : tinf P t = some (1, false)) (hx : ev ρ x = some (.pointer (some ⟨b, off + j.toNat * Rep.sz Int, none⟩)))
  (hi : Γ[i]? = some (mkr (.slice (some ⟨b, off, none⟩) len cap) xs B)) (hy : idx xs j = some y) : Ex P n A w0 ρ Γ ⟨d, .load t x, ty, pos, after, g⟩ (.int .i64 y) := by
 intro a w hs hh
 obtain ⟨h0, h1, h2⟩ := idx_eq hy
 rcases hh.mkd i hi with ⟨rfl, _⟩ | ⟨b', off', cap', cells, Bs, arr, t', hv, hbk, h3, h4, h5, h6, h7, hB⟩
 ·simp at h1
 simp only [Value.slice.injEq, Option.some.injEq, Addr.mk.injEq, and_true] at hv
 obtain ⟨⟨rfl, rfl⟩, rfl, rfl⟩ := hv
 obtain ⟨c1, c, c2, Bi, e1, e2, e3, e4, e5, e6, e7⟩ := DL.focus xs cells Bs j.toNat y h6 h2
 have hcc : c = [.int .i64 y] := e5.1
 have hc : w.cell? ⟨b, off + j.toNat * Rep.sz Int, none⟩ = some (.int .i64 y) := by
  refine h5 _ _ ?_
  rw [e1, ← e2, List.getElem?_append_right (by omega), Nat.sub_self, hcc]
  rfl
 simp [execOp, hs.eval hx, Instr.loadAt, Instr.sureAddr, loadVar, tinf_agg ht, run_load, hc]
theorem sk_store_mkB {α : Type} [Rep α] {x y : Operand} {t : TypeId} {b off cap len o : Nat} {xs : List α} {j k : Int} {y' : α} {st : Int → α} (i : Nat) (hF : FSt o y' st) (ht : tinf P t = some (1, false)) (hx : ev ρ x = some (.pointer (some ⟨b, off + j.toNat * Rep.sz α + o, none⟩))) (hy : ev ρ y = some (.int .i64 k))
  (hi : Γ[i]? = some (mkr (.slice (some ⟨b, off, none⟩) len cap) xs B)) (hj : idx xs j = some y') :
  Sk P n A w0 ρ Γ ⟨d, .store t x y, ty, pos, after, g⟩ (Γ.set i (mkr (.slice (some ⟨b, off, none⟩) len cap) (xs.set j.toNat (st k)) B)) B := by
 intro a w hs hh
 obtain ⟨w', h1, h2, h3, h4⟩ := sk_store_mk (P := P) (n := n) (A := A) (w0 := w0) (ρ := ρ) (Γ := Γ) (d := d) (ty := ty) (pos := pos) (after := after) (g := g) i hF ht hx hy hi hj a w hs hh
 refine ⟨w', h1, h2, ⟨h3.os, h3.tape, h3.output, h3.size, fun c hc hb => h3.block c hc fun hm => hb ?_⟩, h4⟩
 simp only [List.mem_singleton] at hm
 subst hm
 rcases hh.mkd i hi with ⟨rfl, _⟩ | ⟨b', off', cap', cells, Bs, arr, t', hv, hbk, _, _, _, _, _, hB⟩
 ·have := (idx_eq hj).2.1
  simp at this
 ·simp only [Value.slice.injEq, Option.some.injEq, Addr.mk.injEq, and_true] at hv
  rw [hB, ← hv.1.1]
  simp
theorem ds_owns {β : Type} [Rep β] {w : World} {base : Nat} {e : TypeId} {v : Value} {zs : List β} {cells : List Value} (h : w.ownsRow base e (Rep.sz β) v zs.length cells) (hd : DL w cells zs []) (hne : zs ≠ []) : ∃ b, DS w v zs [b] ∧ base ≤ b := by
 rcases h.2 with ⟨_, h0⟩ | ⟨b, cap, cur, rfl, hb, hg, hc, hm, hcs, htk⟩
 ·exact absurd (List.eq_nil_of_length_eq_zero h0) hne
 ·refine ⟨b, .inr ⟨b, 0, cap, cells, [], cur, e, rfl, hg, hc, hm, ?_, hd, by rw [hcs, Nat.zero_add]; exact Nat.le_refl _, rfl⟩, hb⟩
  intro j u hj
  rw [← htk, List.getElem?_take] at hj
  split at hj
  ·simpa [World.cell?, hg] using hj
  ·simp at hj
theorem st_append_mk {β : Type} [Rep β] {x y : Operand} {t e : TypeId} {ag : Bool} {z : Value} {bytes : Nat} {v u : Value} {xs ys zs : List β} (i : Nat) (ht : P.underlying t = some (.slice e)) (he : tinf P e = some (Rep.sz β, ag)) (hz : zinf P e = some z) (hzs : z.cells.size = Rep.sz β) (hb : binf P e = some bytes) (hby : Nat.ble bytes 128 = true)
  (hx : ev ρ x = some v) (hy : ev ρ y = some u) (hi : Γ[i]? = some (mkr v xs B)) (hfl : Rep.flat β = true) (hs' : ∀ w, SH A w0 w Γ → Src (fun k => A k ∨ k ∈ Γ.owns) w u ys) (hne : ys ≠ []) (ha : app xs ys = some zs) :
  St P n A w0 ρ Γ ⟨d, .call ⟨.builtin .append, #[x, y], #[t, t]⟩, ty, pos, after, g⟩ (fun v' : Value × List Nat => v'.1) (fun v' => Γ.set i (mkr v'.1 zs v'.2)) B := by
 intro a w hs hh
 obtain ⟨rfl, hlim⟩ := app_eq ha
 obtain ⟨inf, hinf, hz'⟩ := Option.bind_eq_some_iff.1 hz
 have hsz : inf.size = Rep.sz β := by
  have h1 := he
  unfold tinf at h1
  rw [hinf] at h1
  split at h1
  ·rename_i i' u' e1 e2
   simp at e1 h1
   rw [e1]; exact h1.1
  ·simp at h1
 have hbb : inf.bytes = bytes := by simpa [binf, hinf] using hb
 simp only [Nat.ble_eq] at hby
 unfold lim at hlim
 have hbytes : (xs.length + ys.length) * bytes ≤ 140737488355328 := by have := Nat.mul_le_mul hlim hby; omega
 have hmax : xs.length + ys.length ≤ maxLen := by unfold maxLen; omega
 rcases hs' w hh with ⟨_, h0⟩ | ⟨ad, scap, news, rfl, hnc, hnews⟩
 ·exact absurd h0 hne
 have hnl := RdL.length _ _ hnews
 have hn1 := RdL.one _ _ hnews
 have hnf : DL w news ys [] := DL.flat hfl _ _ hnews
 have hzne : xs ++ ys ≠ [] := by simp [hne]
 have key : ∀ (v' : Value) (w' : World) (C : List Nat), (Builtin.append_ #[t, t] ty #[v, .slice (some ad) ys.length scap]).run P w = .ok v' w' → DS w' v' (xs ++ ys) C → C.Nodup → (∀ b ∈ C, b ∈ B ∨ w.heap.size ≤ b) → Grow w w' B →
   ∃ x' w', (execOp a.eval ⟨d, .call ⟨.builtin .append, #[x, y], #[t, t]⟩, ty, pos, after, g⟩).run P w = .ok (.value (x' : Value × List Nat).1) w' ∧ SH A w0 w' (Γ.set i (mkr x'.1 (xs ++ ys) x'.2)) ∧ Grow w w' B ∧ OwnNew Γ (Γ.set i (mkr x'.1 (xs ++ ys) x'.2)) w := by
  intro v' w' C hrun hds hCn hCo hG
  refine ⟨(v', C), w', ?_, hh.set hi hG hCn (fun b hb => ⟨hCo b hb, hds.lt b hb⟩) (fun w2 hw2 => hds.frame hw2), hG, .set hi hCo⟩
  simp [execOp, resolve, invoke, builtin, hs.eval hx, hs.eval hy, hrun]
 have grows : ∀ (v' : Value) (w' : World) (cells : List Value), (Builtin.append_ #[t, t] ty #[v, .slice (some ad) ys.length scap]).run P w = .ok v' w' → w'.ownsRow w.heap.size e (Rep.sz β) v' (xs ++ ys).length (cells ++ news) → w.grownBy w' none → DL w cells xs [] →
   ∃ x' w', (execOp a.eval ⟨d, .call ⟨.builtin .append, #[x, y], #[t, t]⟩, ty, pos, after, g⟩).run P w = .ok (.value (x' : Value × List Nat).1) w' ∧ SH A w0 w' (Γ.set i (mkr x'.1 (xs ++ ys) x'.2)) ∧ Grow w w' B ∧ OwnNew Γ (Γ.set i (mkr x'.1 (xs ++ ys) x'.2)) w := by
  intro v' w' cells hrun hown hgr hdl
  have hdl' : DL w' (cells ++ news) (xs ++ ys) [] := DL.join _ _ _ _ [] [] (DL.frame _ _ _ hdl (by simp)) (DL.frame _ _ _ hnf (by simp))
  obtain ⟨b, hds, hbb⟩ := ds_owns hown hdl' hzne
  exact key v' w' [b] hrun hds (by simp) (fun c hc => by simp at hc; subst hc; exact .inr hbb) ⟨hgr.os, hgr.tape, hgr.output, hgr.size, fun k hk _ => hgr.block k hk (fun e' => by cases e')⟩
 rcases hh.mkd i hi with ⟨rfl, _, ado, rfl⟩ | ⟨b, off, cap, cells, Bs, arr, t', rfl, hbk, h3, h4, h5, h6, h7, rfl⟩
 ·cases ado with
  | none =>
   obtain ⟨v', w', hrun, hown, hgr, _⟩ := run_append_own (P := P) w w.heap.size t ty e inf z (Rep.sz β) bytes ht hinf hz' hsz hbb hzs Rep.pos (.slice none 0 0) 0 [] ⟨by simp, .inl ⟨rfl, rfl⟩⟩ ad ys.length scap news hnl hnc hn1 (by simpa using hmax) (by simpa using hbytes) (Nat.le_refl _)
   exact grows v' w' [] hrun (by simpa using hown) hgr ⟨rfl, rfl⟩
  | some ad0 =>
   obtain ⟨v', w', hrun, hown, hgr⟩ := run_append_arg_grows (P := P) w t ty e inf z (Rep.sz β) bytes ht hinf hz' hsz hbb hzs Rep.pos ad0 0 0 [] (by simp) (by simp) ad ys.length scap news hnl hnc
    (by have := List.length_pos_iff.2 hne; omega) (by simpa using hmax) (by simpa using hbytes)
   exact grows v' w' [] hrun (by simpa using hown) hgr ⟨rfl, rfl⟩
 ·have hcf : DL w cells xs [] := DL.flat hfl _ _ (DL.rd (A := nowhere) _ _ _ h6 fun _ _ hk => hk)
  have hcl : cells.length = xs.length * Rep.sz β := RdL.length _ _ (DL.rd (A := nowhere) _ _ _ h6 fun _ _ hk => hk)
  by_cases hroom : xs.length + ys.length ≤ cap
  ·have hfit : off + xs.length * inf.size + news.length ≤ arr.size := by
    rw [hsz, hnl]
    have := Nat.mul_le_mul_right (Rep.sz β) hroom
    rw [Nat.add_mul] at this
    omega
   have hrun := run_append_room_off (P := P) (ty := ty) ht hinf hbk (a := ad) (c := scap) (by rw [hsz]; exact hnl) hnc hn1 hroom hfit
   rw [hsz] at hrun hfit
   generalize harr : (arr.toList.take (off + xs.length * Rep.sz β) ++ news ++ arr.toList.drop (off + xs.length * Rep.sz β + news.length)).toArray = arr' at hrun
   have hsize : arr'.size = arr.size := by
    rw [← harr]
    simp
    omega
   have hgb : Grow w (w.setRow b arr') (b :: Bs) := ⟨rfl, rfl, rfl, by simp, fun k _ hk => setRow_other w b k _ (fun e => hk (by simp [e]))⟩
   have hat : ∀ m, arr'[m]? = if m < off + xs.length * Rep.sz β then arr[m]? else if m < off + xs.length * Rep.sz β + news.length then news[m - (off + xs.length * Rep.sz β)]? else arr[m]? := by
    intro m
    rw [← harr]
    simp only [List.getElem?_toArray]
    have hl : (arr.toList.take (off + xs.length * Rep.sz β)).length = off + xs.length * Rep.sz β := by simp; omega
    by_cases hm : m < off + xs.length * Rep.sz β
    ·rw [if_pos hm, List.append_assoc, List.getElem?_append_left (by omega), List.getElem?_take, if_pos hm]
     simp
    ·rw [if_neg hm, List.append_assoc, List.getElem?_append_right (by omega), hl]
     by_cases hm2 : m < off + xs.length * Rep.sz β + news.length
     ·rw [if_pos hm2, List.getElem?_append_left (by omega)]
     ·rw [if_neg hm2, List.getElem?_append_right (by omega), List.getElem?_drop, show off + xs.length * Rep.sz β + news.length + (m - (off + xs.length * Rep.sz β) - news.length) = m by omega]
      simp
   refine key _ _ [b] hrun (.inr ⟨b, off, cap, cells ++ news, [], arr', t', by simp, setRow_heap w b arr _ t' _ hbk, by simpa using hroom, h4, ?_, DL.join _ _ _ _ [] [] (DL.frame _ _ _ hcf (by simp)) (DL.frame _ _ _ hnf (by simp)), by rw [hsize]; exact h7, rfl⟩) (by simp) (fun c hc => by simp at hc; subst hc; exact .inl (by simp)) hgb
   intro j u hj
   have hgoal : (w.setRow b arr').cell? ⟨b, off + j, none⟩ = arr'[off + j]? := by simp [World.cell?, setRow_heap w b arr _ t' _ hbk]
   rw [hgoal, hat]
   by_cases hjc : j < cells.length
   ·rw [if_pos (by omega)]
    rw [List.getElem?_append_left hjc] at hj
    have := h5 j u hj
    simpa [World.cell?, hbk] using this
   ·rw [List.getElem?_append_right (by omega)] at hj
    have hlt := (List.getElem?_eq_some_iff.1 hj).1
    rw [if_neg (by omega), if_pos (by omega), show off + j - (off + xs.length * Rep.sz β) = j - cells.length by omega]
    exact hj
  ·obtain ⟨v', w', hrun, hown, hgr⟩ := run_append_arg_grows (P := P) w t ty e inf z (Rep.sz β) bytes ht hinf hz' hsz hbb hzs Rep.pos ⟨b, off, none⟩ xs.length cap cells hcl (fun j u hj => by rw [Addr.add_lit]; exact h5 j u hj) ad ys.length scap news hnl hnc
    (by omega) hmax hbytes
   exact grows v' w' cells hrun (by simpa using hown) hgr hcf
end
end Go.Tc
