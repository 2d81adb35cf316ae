/-
  Rows as cells alone; functions that turn an own row round. No condition.
  Functions that store through what they are handed: boxes and rows of the caller's go in, and come back with what they hold then. No condition.
  Arrays of numbers inside boxes: parts of them copied, read and written at an index. No condition.
  Ranges over a map, in whatever order its entries come. No condition.
  Tokens that go over one by one: a row with tokens is read from its begin on, and what is taken out takes its tokens along. No condition.
  Own rows in full, their inner rows too; an element of such a row, opened and closed; tokens that become own rows again. No condition.
  Ranges over functions: the function that is ranged over and the rounds are walked in place. No condition.
  Bytes and parts of texts. No condition.
  Functions that strike elements out of an own row by a function value (slices.DeleteFunc). No condition.
-/
import Derived.Test.YtlepdmenejbleaaGreatMore
import Derived.Maps.RangeRun
namespace Go.Tc
open Go Go.RowKit
structure Vc where
 v : Value
 one : v.oneCell' = true
instance : Rep Vc where
 sz := 1
 agg := false
 rdc _ _ cs x := cs = [x.v]
 len h := by subst h; rfl
 one := by
  intro A w cs x h c hc
  subst h
  simp at hc
  subst hc
  exact x.one
 pos := by decide
 single _ := rfl
 frame h _ := h
 dc _ cs x B := cs = [x.v] ∧ B = []
 dcf h _ := h
 dcr h _ := h.1
 dlt h b hb := by simp [h.2] at hb
 flat := true
 flt _ h := ⟨h, rfl⟩
theorem vcs_of : ∀ (cells : List Value), (∀ c ∈ cells, c.oneCell' = true) → ∃ vs : List Vc, vs.map Vc.v = cells
 | [], _ => ⟨[], rfl⟩
 | c :: r, h => by
  obtain ⟨vs, e⟩ := vcs_of r fun d hd => h d (by simp [hd])
  exact ⟨⟨c, h c (by simp)⟩ :: vs, by simp [e]⟩
theorem rdl_vc {A : Nat → Prop} {w : World} : ∀ (vs : List Vc), RdL A w (vs.map Vc.v) vs
 | [] => rfl
 | x :: r => ⟨[x.v], r.map Vc.v, rfl, rfl, rdl_vc r⟩
theorem rdl_vc_eq {A : Nat → Prop} {w : World} : ∀ (vs : List Vc) (cs : List Value), RdL A w cs vs → cs = vs.map Vc.v
 | [], _, h => h
 | x :: r, _, ⟨c1, c2, e, h1, h2⟩ => by
  have h1 : c1 = [x.v] := h1
  rw [e, h1, rdl_vc_eq r c2 h2]
  rfl
theorem RdL.rev {α : Type} [Rep α] {A : Nat → Prop} {w : World} (hs : Rep.sz α = 1) : ∀ (xs : List α) (cs : List Value), RdL A w cs xs → RdL A w cs.reverse xs.reverse
 | [], _, h => by simp [RdL] at h; simp [RdL, h]
 | x :: r, _, ⟨c1, c2, e, h1, h2⟩ => by
  have hl := Rep.len h1
  rw [hs] at hl
  match c1, hl with
  | [c], _ =>
   subst e
   rw [List.singleton_append, List.reverse_cons, List.reverse_cons]
   exact RdL.append _ _ _ _ (RdL.rev hs r c2 h2) ⟨[c], [], rfl, h1, rfl⟩
def rev {α : Type} (xs : List α) : Option (List α) := if xs.length ≤ 1099511627776 then some xs.reverse else none
def RevCon (P : Program) (f : FuncId) (e : TypeId) : Prop :=
 ∀ (w : World) (v : Value) (xs ys : List Vc), Ow (fun k => k ∈ v.ownBlock.toList) w e v xs → (∀ b ∈ v.ownBlock.toList, b < w.heap.size) → rev xs = some ys →
  Calls P f #[v] w fun r w' => r = .returned (.tuple #[]) ∧ Ow (fun k => k ∈ v.ownBlock.toList) w' e v ys ∧ Grow w w' v.ownBlock.toList
section
variable {R : Type} {P : Program} {n : Fr} {A : Nat → Prop} {w0 w w' : World} {Q : R → Exit → Act → World → Prop} {ρ ρ' : Env} {Γ Γ' : Ctx} {E : Option R}
variable {d : Option Nat} {ty : TypeId} {pos : String} {after : Array Edge} {g : Option (Nat × Bool)}
theorem RevCon.ow {f : FuncId} {e : TypeId} (hM : RevCon P f e) {α : Type} [Rep α] (hs : Rep.sz α = 1) {A : Nat → Prop} {w : World} {v : Value} {xs ys : List α} (h : Ow A w e v xs) (hA : ∀ b ∈ v.ownBlock.toList, A b) (hb : ∀ b ∈ v.ownBlock.toList, b < w.heap.size) (hr : rev xs = some ys) :
  Calls P f #[v] w fun r w' => r = .returned (.tuple #[]) ∧ Ow A w' e v ys ∧ Grow w w' v.ownBlock.toList := by
 obtain ⟨cells, h1, h2⟩ := h
 obtain ⟨vs, hvs⟩ := vcs_of cells (RdL.one _ _ h2)
 have hl := RdL.length _ _ h2
 rw [hs, Nat.mul_one] at hl
 have hvl : vs.length = xs.length := by rw [← hl, ← hvs, List.length_map]
 unfold rev at hr
 split at hr
 ·rename_i hle
  have hO : Ow (fun k => k ∈ v.ownBlock.toList) w e v vs := ⟨cells, by rw [hvl]; rw [hs] at h1; exact h1, by rw [← hvs]; exact rdl_vc vs⟩
  refine (hM w v vs vs.reverse hO hb (by unfold rev; rw [hvl, if_pos hle])).mono ?_
  rintro r w' ⟨rfl, ⟨cells', h3, h4⟩, hg⟩
  refine ⟨rfl, ?_, hg⟩
  have e1 := rdl_vc_eq _ _ h4
  rw [List.map_reverse, hvs] at e1
  subst e1
  rw [← Option.some.inj hr]
  refine ⟨cells.reverse, ?_, RdL.frame (fun k hk hn => ⟨hg.block k hk (fun hm => hn (hA k hm)), hn⟩) _ _ (RdL.rev hs _ _ h2)⟩
  rw [List.length_reverse, ← hvl, hs]
  rw [List.length_reverse] at h3
  exact h3
 ·simp at hr
end
end Go.Tc
namespace Go.Tc
open Go Go.RowKit
def restL (w : World) (B : List Nat) : List Nat := (List.range w.heap.size).filter (fun k => !(B.contains k))
theorem mem_restL {w : World} {B : List Nat} {k : Nat} : k ∈ restL w B ↔ k < w.heap.size ∧ k ∉ B := by
 simp [restL]
abbrev outs (w : World) (B : List Nat) : Fact := .tkn (.int .i64 0) (0 : Int) (restL w B)
def Fact.loose : Fact → Bool
 | @Fact.ow α _ _ _ _ => Rep.flat α
 | @Fact.od _ _ _ _ _ _ => true
 | @Fact.tkn _ _ _ _ _ => true
 | .bx _ _ _ => true
 | .pr _ => true
 | .inv _ _ => true
 | _ => false
theorem Fact.loose_holds {A A' : Nat → Prop} {B B' : Nat} {w : World} {f : Fact} (hl : f.loose = true) (h : f.holds A B w) (ht : ∀ b ∈ f.toks, ¬ A' b) : f.holds A' B' w := by
 cases f with
 | ow e v xs =>
  obtain ⟨cells, h1, h2⟩ := h
  exact ⟨cells, h1, (DL.flat hl _ _ h2).rd _ _ _ (by simp)⟩
 | od e v xs Bs =>
  exact ⟨h.1, fun b hb => ⟨(h.2 b hb).1, ht b hb⟩⟩
 | tkn v x Bs =>
  exact ⟨h.1, fun b hb => ⟨(h.2 b hb).1, ht b hb⟩⟩
 | bx b t cs => exact h
 | pr p => exact h
 | rd v x => simp [Fact.loose] at hl
 | pt v x => simp [Fact.loose] at hl
 | pa v x => simp [Fact.loose] at hl
 | inv B I => exact h
 | fz w1 C => simp [Fact.loose] at hl
theorem ptr_start {w : World} {Γin : Ctx} (hn : Γin.owns.Nodup) (hb : ∀ b ∈ Γin.owns, b < w.heap.size) (ht : Γin.toks = []) (hl : Γin.all Fact.loose = true) {A : Nat → Prop} {B : Nat} (hh : ∀ f ∈ Γin, f.holds A B w) :
  SH nowhere (bare w) w (Γin ++ [outs w Γin.owns, rest w Γin.owns]) := by
 have ho : Ctx.owns (Γin ++ [outs w Γin.owns, rest w Γin.owns]) = Γin.owns := by simp [Ctx.owns, Fact.owns]
 have hto : Ctx.toks (Γin ++ [outs w Γin.owns, rest w Γin.owns]) = restL w Γin.owns := by
  have : Ctx.toks (Γin ++ [outs w Γin.owns, rest w Γin.owns]) = Γin.toks ++ restL w Γin.owns := by simp [Ctx.toks, Fact.toks]
  rw [this, ht, List.nil_append]
 refine ⟨⟨rfl, rfl, rfl, by simp [bare], fun k hk => by simp [bare] at hk⟩, fun k hk => hk.elim, by rw [ho]; exact hn, fun b h => ⟨by simp [bare], ?_⟩, ?_, fun b _ => by simp [bare], fun f hf => ?_⟩
 ·rw [ho] at h
  exact hb b h
 ·rw [hto]
  exact List.nodup_range.filter _
 ·rw [ho]
  rcases List.mem_append.1 hf with hf | hf
  ·refine Fact.loose_holds (List.all_eq_true.1 hl f hf) (hh f hf) (fun b hbt => ?_)
   have : b ∈ Γin.toks := List.mem_flatMap.2 ⟨f, hf, hbt⟩
   rw [ht] at this
   simp at this
  ·simp only [List.mem_cons, List.not_mem_nil, or_false] at hf
   rcases hf with rfl | rfl
   ·refine ⟨⟨[], ⟨[.int .i64 0], rfl, rfl, rfl⟩, by simp, by simp⟩, fun b hbr => ⟨(mem_restL.1 hbr).1, ?_⟩⟩
    rintro (hk | hk)
    ·exact hk
    ·exact (mem_restL.1 hbr).2 hk
   ·refine ⟨Nat.le_refl _, fun k hk => ⟨?_, hk.1, rfl⟩⟩
    rintro (hk' | hk')
    ·exact hk'.elim
    ·exact hk.2 hk'
def PHanded (w : World) (Γin : Ctx) : Prop := Γin.owns.Nodup ∧ (∀ b ∈ Γin.owns, b < w.heap.size) ∧ Γin.toks = [] ∧ Γin.all Fact.loose = true ∧ ∀ f ∈ Γin, f.holds (fun _ => False) 0 w
theorem SH.begin {w : World} {Γin : Ctx} {B : List Nat} (hB : Γin.owns = B) (h : PHanded w Γin) : SH nowhere (bare w) w (Γin ++ [outs w B, rest w B]) := by
 subst hB
 exact ptr_start h.1 h.2.1 h.2.2.1 h.2.2.2.1 h.2.2.2.2
theorem SH.cons_apart {α : Type} [Rep α] {w0 w : World} {Γ : Ctx} {B : List Nat} {v : Value} {x : α} (h : SH nowhere w0 w Γ) (hB : Γ.owns = B) (hr : Rd (fun k => k ∈ B) w v x) : SH nowhere w0 w (.rd v x :: Γ) :=
 h.cons_rd (by
  rw [hB]
  exact hr.weak fun k hk => hk.elim (fun h => h.elim) id)
def PtrCon (P : Program) (f : FuncId) (vs : List Value) (w : World) (B : List Nat) {G : Type} (v : G → Value) (fs : G → Ctx) : Prop :=
 Calls P f vs.toArray w fun e w' => ∃ x, e = .returned (v x) ∧ SH nowhere (bare w) w' (fs x ++ [outs w B, rest w B])
section
variable {R : Type} {P : Program} {n : Fr} {A : Nat → Prop} {w0 w w' : World} {Q : R → Exit → Act → World → Prop} {ρ ρ' : Env} {Γ Γ' Δ : Ctx} {E : Option R} {B : List Nat}
variable {d : Option Nat} {ty : TypeId} {pos : String} {after : Array Edge} {g : Option (Nat × Bool)}
theorem ptr_back {A' : Nat → Prop} {w1 : World} (k : SH A' w1 w' (Δ ++ [outs w B, rest w B])) (hw : w1 = bare w) (hA' : A' = nowhere) :
  Grow w w' B ∧ (∀ b ∈ Δ.owns, b ∈ B ∨ w.heap.size ≤ b) ∧ (∀ b ∈ Δ.toks, b ∈ B ∨ w.heap.size ≤ b) ∧ Δ.owns.Nodup ∧ Δ.toks.Nodup ∧ (∀ b ∈ Δ.owns, b < w'.heap.size) ∧ ∀ b ∈ Δ.toks, b < w'.heap.size ∧ b ∉ Δ.owns := by
 subst hw hA'
 have ho : Ctx.owns (Δ ++ [outs w B, rest w B]) = Δ.owns := by simp [Ctx.owns, Fact.owns]
 have hto : Ctx.toks (Δ ++ [outs w B, rest w B]) = Δ.toks ++ restL w B := by simp [Ctx.toks, Fact.toks]
 have h1 := k.get Δ.length (f := outs w B) (by simp)
 have h2 := k.get (Δ.length + 1) (f := rest w B) (by simp)
 rw [ho] at h1 h2
 have htn := k.tnd
 rw [hto, List.nodup_append] at htn
 refine ⟨⟨k.below.os, k.below.tape, k.below.output, h2.1, fun j hj hb => (h2.2 j ⟨hj, hb⟩).2.2⟩, fun b hb => ?_, fun b hb => ?_, by have := k.nd; rw [ho] at this; exact this, htn.1, fun b hb => (k.ge b (by rw [ho]; exact hb)).2, fun b hb => ?_⟩
 ·refine Classical.byContradiction fun hn => ?_
  exact (h2.2 b ⟨by omega, fun h => hn (.inl h)⟩).1 (.inr hb)
 ·refine Classical.byContradiction fun hn => ?_
  exact htn.2.2 b hb b (mem_restL.2 ⟨by omega, fun h => hn (.inl h)⟩) rfl
 ·have := k.tlt b (by rw [hto]; simp [hb])
  rw [ho] at this
  exact this
theorem SH.ptr_join (h : SH A w0 w Γ) (is js : List Nat) (hn : ndup (js ++ is) = true) (hB : (Tc.sel is Γ).owns = B) (k : SH nowhere (bare w) w' (Δ ++ [outs w B, rest w B])) (hl : Δ.all Fact.loose = true) :
  SH A w0 w' (Δ ++ Tc.sel js Γ) ∧ Grow w w' B ∧ OwnNew Γ (Δ ++ Tc.sel js Γ) w := by
 obtain ⟨hg, hon, htn, hnd, htd, hlt, htl⟩ := ptr_back k rfl rfl
 have hp := h.persist js is hn hB hg
 have hBo : ∀ b ∈ B, b ∈ Γ.owns := fun b hb => by
  rw [← hB] at hb
  obtain ⟨i, _, f, hf, hbf⟩ := sel_owns is Γ b hb
  exact List.mem_flatMap.2 ⟨f, List.mem_of_getElem? hf, hbf⟩
 have hso : ∀ b ∈ (Tc.sel js Γ).owns, b ∈ Γ.owns := fun b hb => by
  obtain ⟨m, _, f, hf, hbf⟩ := sel_owns js Γ b hb
  exact List.mem_flatMap.2 ⟨f, List.mem_of_getElem? hf, hbf⟩
 have hne : ∀ b ∈ (Tc.sel js Γ).owns, b ∉ B := fun b hb hbB => by
  rw [← hB] at hbB
  obtain ⟨i, hi, f, hf, hbf⟩ := sel_owns js Γ b hb
  obtain ⟨j, hj, f', hf', hbf'⟩ := sel_owns is Γ b hbB
  exact nodup_two h.nd hf hf' ((ndup_append js is hn).2 i hi j hj) hbf hbf'
 have ho : Ctx.owns (Δ ++ Tc.sel js Γ) = Δ.owns ++ (Tc.sel js Γ).owns := by simp [Ctx.owns]
 have hto : Ctx.toks (Δ ++ Tc.sel js Γ) = Δ.toks ++ (Tc.sel js Γ).toks := by simp [Ctx.toks]
 have hge : ∀ b, b ∈ B ∨ w.heap.size ≤ b → w0.heap.size ≤ b := fun b hb => by
  rcases hb with hb | hb
  ·exact (h.ge b (hBo b hb)).1
  ·exact Nat.le_trans h.lt hb
 have hst : ∀ b ∈ (Tc.sel js Γ).toks, b ∈ Γ.toks := fun b hb => sel_toks js Γ b hb
 refine ⟨⟨hp.below, h.av, ?_, ?_, ?_, ?_, ?_⟩, hg, ?_⟩
 ·rw [ho, List.nodup_append]
  refine ⟨hnd, hp.nd, fun a ha b hb e => ?_⟩
  subst e
  rcases hon a ha with h1 | h1
  ·exact hne a hb h1
  ·have := (h.ge a (hso a hb)).2; omega
 ·intro b hb
  rw [ho] at hb
  rcases List.mem_append.1 hb with hb | hb
  ·exact ⟨hge b (hon b hb), hlt b hb⟩
  ·exact hp.ge b hb
 ·rw [hto, List.nodup_append]
  refine ⟨htd, hp.tnd, fun a ha b hb e => ?_⟩
  subst e
  rcases htn a ha with h1 | h1
  ·exact (h.tlt a (hst a hb)).2 (hBo a h1)
  ·have := (h.tlt a (hst a hb)).1; omega
 ·intro b hb
  rw [hto] at hb
  rcases List.mem_append.1 hb with hb | hb
  ·exact hge b (htn b hb)
  ·exact hp.tge b hb
 ·intro f hf
  rcases List.mem_append.1 hf with hf | hf
  ·have hk := k.all f (List.mem_append_left _ hf)
   refine Fact.loose_holds (List.all_eq_true.1 hl f hf) hk (fun b hbt => ?_)
   have hbT : b ∈ Δ.toks := List.mem_flatMap.2 ⟨f, hf, hbt⟩
   rintro (hk' | hk')
   ·have h1 := h.av b hk'
    have h2 := hge b (htn b hbT)
    omega
   ·rw [ho] at hk'
    rcases List.mem_append.1 hk' with hk' | hk'
    ·exact (htl b hbT).2 hk'
    ·rcases htn b hbT with h1 | h1
     ·exact hne b hk' h1
     ·have := (h.ge b (hso b hk')).2; omega
  ·obtain ⟨m, hm, hmf⟩ := sel_mem js Γ f hf
   refine Fact.frame hg.size (h.all f (List.mem_of_getElem? hmf)) (fun b hb => hg.block b (h.ge b (List.mem_flatMap.2 ⟨f, List.mem_of_getElem? hmf, hb⟩)).2 (hne b (List.mem_flatMap.2 ⟨f, hf, hb⟩))) (fun j hj => hg.block j (Nat.lt_of_lt_of_le hj h.lt) (fun hm => absurd (h.ge j (hBo j hm)).1 (by omega))) (fun j hj ha => ⟨hg.block j hj (fun hm => ha (.inr (hBo j hm))), ?_⟩)
   rintro (hj' | hj')
   ·exact ha (.inl hj')
   ·rw [ho] at hj'
    rcases List.mem_append.1 hj' with hj' | hj'
    ·rcases hon j hj' with h1 | h1
     ·exact ha (.inr (hBo j h1))
     ·omega
    ·exact ha (.inr (hso j hj'))
 ·intro b hb
  rw [ho] at hb
  rcases List.mem_append.1 hb with hb | hb
  ·rcases hon b hb with h1 | h1
   ·exact .inl (hBo b h1)
   ·exact .inr h1
  ·exact .inl (hso b hb)
theorem SH.handed {Γin : Ctx} (h : SH A w0 w Γ) (is : List Nat) (hn : ndup is = true) (hin : Tc.sel is Γ = Γin) (hl : Γin.all Fact.loose = true) (ht : Γin.all (fun f => f.toks.isEmpty) = true) :
  PHanded w Γin := by
 subst hin
 refine ⟨sel_nodup is Γ hn h.nd, fun b hb => ?_, ?_, hl, fun f hf => ?_⟩
 ·obtain ⟨m, _, f, hf, hbf⟩ := sel_owns is Γ b hb
  exact (h.ge b (List.mem_flatMap.2 ⟨f, List.mem_of_getElem? hf, hbf⟩)).2
 ·simp only [Ctx.toks, List.flatMap_eq_nil_iff]
  intro f hf
  simpa using List.all_eq_true.1 ht f hf
 ·obtain ⟨m, _, hmf⟩ := sel_mem is Γ f hf
  exact Fact.loose_holds (List.all_eq_true.1 hl f hf) (h.all f (List.mem_of_getElem? hmf)) (fun _ _ h => h)
theorem SH.apart {α : Type} [Rep α] {v : Value} {x : α} (h : SH A w0 w Γ) (is : List Nat) (hB : (Tc.sel is Γ).owns = B) (hr : Rd (fun k => A k ∨ k ∈ Γ.owns) w v x) : Rd (fun k => k ∈ B) w v x := by
 refine hr.weak fun k hk => .inr ?_
 rw [← hB] at hk
 obtain ⟨i, _, f, hf, hbf⟩ := sel_owns is Γ k hk
 exact List.mem_flatMap.2 ⟨f, List.mem_of_getElem? hf, hbf⟩
theorem PtrCon_of {k : Nat} {f : FuncId} {fn : Func} {body : Code} {vs : List Value} {G : Type} {v : R → G → Value} {fs : R → G → Ctx} {r : R}
  (hf : P.funcs[f]? = some fn) (hb : fn.body = some body) (hn : fn.ntmps = k) (hl : Nat.ble vs.length k = true) (hΓ : SH nowhere (bare w) w Γ) (hρ : enum 0 vs = ρ)
  (h : J P ⟨k, [], none⟩ nowhere (bare w) body (QBody P fn (Post nowhere (bare w) v (fun r x => fs r x ++ [outs w B, rest w B]))) ρ Γ E) (hE : E = some r) : PtrCon P f vs w B (v r) (fs r) :=
 ConM_of hf hb hn hl hΓ hρ h hE
def CaT (P : Program) (A : Nat → Prop) (w0 : World) (Γ : Ctx) (f : FuncId) (vs : List Value) {G : Type} (v : G → Value) (Γ' : G → Ctx) (T : List Nat) : Prop :=
 ∀ w, SH A w0 w Γ → Calls P f vs.toArray w fun e w' => ∃ x, e = .returned (v x) ∧ SH A w0 w' (Γ' x) ∧ Grow w w' T ∧ OwnNew Γ (Γ' x) w
theorem CaT_of {f : FuncId} {vs : List Value} {G : Type} {v : G → Value} {fs : G → Ctx} (is js : List Nat) (hn : ndup (js ++ is) = true) (hB : (sel is Γ).owns = B) (hl : ∀ x, (fs x).all Fact.loose = true) (h : ∀ w, SH A w0 w Γ → PtrCon P f vs w B v fs) : CaT P A w0 Γ f vs v (fun x => fs x ++ sel js Γ) B :=
 fun w hh => (h w hh).mono fun _ _ ⟨x, he, hk⟩ => ⟨x, he, hh.ptr_join is js hn hB hk (hl x)⟩
theorem JL_callT {ops : Array Oper} {rest : List Oper} {d : Nat} {f : FuncId} {args : List Operand} {ats : Array TypeId} {vs : List Value} {G : Type} {v : G → Value} {Γ' : G → Ctx} {T : List Nat}
  (hw : Wants n ρ ops ⟨some d, .call ⟨.value (.func f), args.toArray, ats⟩, ty, pos, after, g⟩) (hd : Nat.blt d n.n = true)
  (hf : ∀ args w, (callFunc f args).run P w = .ok (.enter f args) w) (hargs : evL ρ args = some vs) (hC : CaT P A w0 Γ f vs v Γ' T)
  (h : ∀ x, JL P n A w0 ops rest Q ((d, v x) :: ρ) (Γ' x) E) : JL P n A w0 ops (⟨some d, .call ⟨.value (.func f), args.toArray, ats⟩, ty, pos, after, g⟩ :: rest) Q ρ Γ E := by
 intro r hr a w hs hh
 refine wpList_step fun K hK => ?_
 rw [hw a hs]
 simp only [if_true]
 unfold Oper.wp
 rw [run_mark hs hf hargs, Oper.upon_enter]
 refine (hC w hh).mono ?_
 rintro e w' ⟨x, rfl, hh', _⟩
 exact hK _ _ (h x r hr _ _ (hs.put (by simpa [Nat.blt_eq] using hd)) hh')
theorem JO_callT {w1 : World} {Γ1 : Ctx} {ops : Array Oper} {O : List Nat} {fuel : Nat} {listed : Array Bool} {i d : Nat} {f : FuncId} {args : List Operand} {ats : Array TypeId} {vs : List Value} {G : Type} {v : G → Value} {Γ' : G → Ctx} {T : List Nat}
  (hi : ops[i]? = some ⟨some d, .call ⟨.value (.func f), args.toArray, ats⟩, ty, pos, after, g⟩) (hw : Wants n ρ ops ⟨some d, .call ⟨.value (.func f), args.toArray, ats⟩, ty, pos, after, g⟩) (hd : Nat.blt d n.n = true)
  (hf : ∀ args w, (callFunc f args).run P w = .ok (.enter f args) w) (hargs : evL ρ args = some vs) (hC : CaT P A w0 Γ f vs v Γ' T) (hT : ∀ k ∈ T, k ∈ O)
  (h : ∀ x, JD P n A w0 w1 Γ1 ops O fuel (listed.setIfInBounds i true) Q ((d, v x) :: ρ) (Γ' x) E) : JO P n A w0 w1 Γ1 ops O fuel listed Q i ρ Γ E := by
 intro r hr' a w hsa hh hg hon
 unfold wpOp
 simp only [hi, hw a hsa, if_true]
 refine .inl ?_
 unfold Oper.wp
 rw [run_mark hsa hf hargs, Oper.upon_enter]
 refine (hC w hh).mono ?_
 rintro e w' ⟨x, rfl, hh', hgr, hno⟩
 exact ⟨hg.more hgr hT, h x r hr' _ _ (hsa.put (by simpa [Nat.blt_eq] using hd)) hh' (hg.more hgr hT) (hon.trans hg hno)⟩
theorem N_ret4 {fn : Func} {rv1 rv2 rv3 rv4 : ResultVar} {u1 u2 u3 u4 : Value} {G : Type} {v : R → G → Value} {fs : R → G → Ctx} {r : R} (hres : fn.results = #[rv1, rv2, rv3, rv4]) (hu1 : Rv P n A w0 ρ Γ rv1 u1) (hu2 : Rv P n A w0 ρ Γ rv2 u2) (hu3 : Rv P n A w0 ρ Γ rv3 u3) (hu4 : Rv P n A w0 ρ Γ rv4 u4)
  (h : ∀ w, SH A w0 w Γ → ∃ x, .tuple #[u1, u2, u3, u4] = v r x ∧ SH A w0 w (fs r x)) (hds : n.ds = [] := by rfl) : N n A w0 (QBody P fn (Post A w0 v fs)) .ret ρ Γ (some r) := by
 rintro r' hr a w hs hh
 cases hr
 refine leaves0 (hs.defers.trans hds) ⟨.tuple #[u1, u2, u3, u4], ?_, ?_⟩
 ·rw [results_rv, hres]
  simp [hu1 a w hs hh, hu2 a w hs hh, hu3 a w hs hh, hu4 a w hs hh]
 ·obtain ⟨x, hx1, hx⟩ := h w hh
  exact ⟨x, by rw [hx1], hx⟩
end
end Go.Tc
namespace Go.Tc
open Go Go.RowKit
section
variable {R : Type} {P : Program} {n : Fr} {A : Nat → Prop} {w0 : World} {Q : R → Exit → Act → World → Prop} {ρ ρ' : Env} {Γ Γ' : Ctx} {E : Option R}
variable {d : Option Nat} {ty : TypeId} {pos : String} {after : Array Edge} {g : Option (Nat × Bool)}
end
section
variable {P : Program} {w : World}
end
end Go.Tc
namespace Go.Tc
open Go Go.RowKit
section
variable {α S R0 : Type}
open Classical in
end
def rgF (b r : Nat) (es : Array MapEntry) (clock : Nat) (seen : Array Nat) : Fact :=
 .inv [r, b] (fun w => w.heap[b]? = some (.map es clock) ∧ w.heap[r]? = some (.mapIter (some b) clock seen clock))
section
variable {R R0 S G : Type} {P : Program} {n : Fr} {A : Nat → Prop} {w0 w w' : World} {Q : R → Exit → Act → World → Prop} {ρ ρ' : Env} {Γ Γ' : Ctx} {E : Option R}
variable {ty : TypeId} {pos : String} {after : Array Edge} {g : Option (Nat × Bool)}
variable {κ ν : Type} {enc : κ → Value} {venc : ν → Value}
def Ents (enc : κ → Value) (venc : ν → Value) (m : List (κ × ν)) (es : Array MapEntry) (clock : Nat) : Prop :=
 es.toList.map (fun e => (e.key, e.val)) = m.map (fun p => (enc p.1, venc p.2)) ∧ Stamps es clock
theorem Ents.len {m : List (κ × ν)} {es : Array MapEntry} {clock : Nat} (h : Ents enc venc m es clock) : es.toList.length = m.length := by
 have := congrArg List.length h.1
 simpa using this
theorem Ents.zip {m : List (κ × ν)} {es : Array MapEntry} {clock : Nat} (h : Ents enc venc m es clock) {e : MapEntry} (he : e ∈ es.toList) : ∃ p, (e, p) ∈ es.toList.zip m ∧ e.key = enc p.1 ∧ e.val = venc p.2 := by
 obtain ⟨i, hi, rfl⟩ := List.getElem_of_mem he
 have hl := h.len
 have hi' : i < m.length := by omega
 refine ⟨m[i], ?_, ?_⟩
 ·have : (es.toList.zip m)[i]'(by rw [List.length_zip]; omega) = (es.toList[i], m[i]) := List.getElem_zip
  rw [← this]
  exact List.getElem_mem _
 ·have h1 := h.1
  have : (es.toList.map (fun e => (e.key, e.val)))[i]? = (m.map (fun p => (enc p.1, venc p.2)))[i]? := by rw [h1]
  rw [List.getElem?_map, List.getElem?_map, List.getElem?_eq_getElem hi, List.getElem?_eq_getElem hi'] at this
  simpa using this
theorem SH.rg {b r : Nat} {es : Array MapEntry} {clock : Nat} {seen : Array Nat} (h : SH A w0 w Γ) (i : Nat) (hi : Γ[i]? = some (rgF b r es clock seen)) : w.heap[b]? = some (.map es clock) ∧ w.heap[r]? = some (.mapIter (some b) clock seen clock) := h.get i hi w fun _ _ => rfl
end
end Go.Tc
namespace Go.Tc
open Go Go.RowKit
section
variable {α : Type}
theorem tks_append (l m : List (Tk α)) : tks (l ++ m) = tks l ++ tks m := by simp [tks]
def tlB (ts : List (Tk α)) (k : Int) : List Nat := tks (ts.drop k.toNat)
theorem tks_drop (ts : List (Tk α)) (n : Nat) : (tks (ts.drop n)).Sublist (tks ts) := by
 have : tks ts = tks (ts.take n) ++ tks (ts.drop n) := by rw [← tks_append, List.take_append_drop]
 rw [this]
 exact List.sublist_append_right _ _
end
section
variable {R : Type} {P : Program} {n : Fr} {A : Nat → Prop} {w0 w w' : World} {Q : R → Exit → Act → World → Prop} {ρ ρ' : Env} {Γ Γ' : Ctx} {E : Option R}
variable {d : Option Nat} {ty : TypeId} {pos : String} {after : Array Edge} {g : Option (Nat × Bool)}
abbrev hld (B : List Nat) : Fact := .tkn (.int .i64 0) (0 : Int) B
theorem SH.tail {α : Type} [Rep α] {e : TypeId} {v : Value} {xs : List α} {B : List Nat} (h : SH A w0 w Γ) (i : Nat) (hi : Γ[i]? = some (.od e v xs B)) (k : Int) :
  ∃ ts : List (Tk α), dats ts = xs ∧ ts.length ≤ maxLen ∧ SH A w0 w (hld (tlB ts k) :: .rd v ts :: Γ.set i (.rd v xs)) := by
 have hli := (List.getElem?_eq_some_iff.1 hi).1
 obtain ⟨⟨cells, B0, ho1, _, _, _⟩, h3⟩ := h.get i hi
 obtain ⟨ts, e1, e2, e4, h1⟩ := h.od_down i hi
 have hlen : ts.length ≤ maxLen := by
  rw [← dats_length, e1]
  rcases ho1.2 with ⟨_, h0⟩ | ⟨_, cap, _, _, _, _, hc, hm, _, _⟩
  ·omega
  ·omega
 have h5 := (h.od_ow i hi).freeze i (get_set hli)
 have h6 := h1.freeze i (get_set hli)
 rw [List.set_set] at h5 h6
 have ho : ∀ {β : Type} [Rep β] (y : β), ∃ l1 l2, Γ.owns = l1 ++ v.ownBlock.toList ++ l2 ∧ Ctx.owns (Γ.set i (.rd v y)) = l1 ++ [] ++ l2 := fun {β} _ y => owns_set (f' := .rd v y) hi
 have hoo : Ctx.owns (Γ.set i (.rd v ts)) = Ctx.owns (Γ.set i (.rd v xs)) := by
  have a := owns_set_eq (Γ := Γ.set i (.rd v ts)) (f := .rd v ts) (f' := .rd v xs) (get_set hli) rfl
  rw [List.set_set] at a
  exact a.symm
 have hrd := h6.get i (get_set hli)
 have h7 : SH A w0 w (.rd v ts :: Γ.set i (.rd v xs)) := h5.cons_rd (by rw [← hoo]; exact hrd)
 have hsub : ∀ b ∈ tlB ts k, b ∈ B := fun b hb => e4 b ((tks_drop ts _).subset hb)
 have hBt : ∀ b ∈ B, b ∈ Γ.toks := fun c hc => List.mem_flatMap.2 ⟨_, List.mem_of_getElem? hi, hc⟩
 have hsubo : ∀ b ∈ Ctx.owns (Γ.set i (.rd v xs)), b ∈ Γ.owns := fun b hb => by
  obtain ⟨l1, l2, a, c⟩ := ho xs
  rw [c] at hb
  rw [a]
  simp only [List.append_nil, List.mem_append] at hb ⊢
  rcases hb with hb | hb
  ·exact .inl (.inl hb)
  ·exact .inr hb
 refine ⟨ts, e1, hlen, ?_⟩
 refine h7.consT (Grow.refl w []) (by simp [Fact.owns]) (by simp [Fact.owns]) ⟨⟨[], ⟨[.int .i64 0], rfl, rfl, rfl⟩, by simp, by simp⟩, fun b hb => ⟨(h3 b (hsub b hb)).1, ?_⟩⟩ ?_ (fun b hb => h.tge b (hBt b (hsub b hb)))
 ·have h8 : Ctx.owns (hld (tlB ts k) :: .rd v ts :: Γ.set i (.rd v xs)) = Ctx.owns (Γ.set i (.rd v xs)) := by simp [Ctx.owns, Fact.owns]
  rw [h8]
  rintro (hk | hk)
  ·exact (h3 b (hsub b hb)).2 (.inl hk)
  ·exact (h3 b (hsub b hb)).2 (.inr (hsubo b hk))
 ·show (tlB ts k ++ Ctx.toks (.rd v ts :: Γ.set i (.rd v xs))).Nodup
  have h9 : Ctx.toks (.rd v ts :: Γ.set i (.rd v xs)) = Ctx.toks (Γ.set i (.rd v xs)) := by simp [Ctx.toks, Fact.toks]
  rw [h9]
  refine ((toks_perm (f' := .rd v xs) hi).append_left _).nodup_iff.2 ?_
  have p4 := (toks_perm0 hi).nodup_iff.1 h.tnd
  simp only [Fact.toks, List.nil_append] at p4 ⊢
  rw [List.nodup_append] at p4 ⊢
  exact ⟨e2.sublist (tks_drop ts _), p4.2.1, fun a ha b hb e => p4.2.2 a (hsub a ha) b hb e⟩
end
end Go.Tc
namespace Go.Tc
open Go Go.RowKit
section
variable {A : Nat → Prop} {w0 w w' : World} {Γ Γ' Δ : Ctx} {B : List Nat}
theorem DL.split {α : Type} [Rep α] {w : World} : ∀ (xs : List α) (cs : List Value) (B : List Nat) (k : Nat) (y : α), DL w cs xs B → xs[k]? = some y →
  ∃ c1 c c2 B1 Bi B2, cs = c1 ++ (c ++ c2) ∧ B = B1 ++ (Bi ++ B2) ∧ c1.length = k * Rep.sz α ∧ DL w c1 (xs.take k) B1 ∧ Rep.dc w c y Bi ∧ DL w c2 (xs.drop (k + 1)) B2
 | [], _, _, k, y, _, hk => by simp at hk
 | x :: r, _, _, 0, y, ⟨c1, c2, B1, B2, e, eB, h1, h2⟩, hk => by
  simp at hk
  subst hk e eB
  exact ⟨[], c1, c2, [], B1, B2, rfl, rfl, by simp, ⟨rfl, rfl⟩, h1, h2⟩
 | x :: r, _, _, k + 1, y, ⟨c1, c2, B1, B2, e, eB, h1, h2⟩, hk => by
  subst e eB
  obtain ⟨d1, d, d2, C1, Ci, C2, e1, e2, e3, e4, e5, e6⟩ := DL.split r c2 B2 k y h2 (by simpa using hk)
  have hl := Rep.len (Rep.dcr (A := nowhere) h1 fun _ _ h => h)
  refine ⟨c1 ++ d1, d, d2, B1 ++ C1, Ci, C2, by rw [e1]; simp, by rw [e2]; simp, by rw [List.length_append, hl, e3, Nat.add_mul]; omega, ⟨c1, d1, B1, C1, rfl, rfl, h1, e4⟩, e5, e6⟩
theorem DL.join {α : Type} [Rep α] {w : World} : ∀ (xs ys : List α) (c d : List Value) (B C : List Nat), DL w c xs B → DL w d ys C → DL w (c ++ d) (xs ++ ys) (B ++ C)
 | [], ys, _, d, _, C, ⟨e1, e2⟩, h => by subst e1 e2; exact h
 | x :: r, ys, _, d, _, C, ⟨c1, c2, B1, B2, e, eB, h1, h2⟩, h => by
  subst e eB
  exact ⟨c1, c2 ++ d, B1, B2 ++ C, by simp, by simp, h1, DL.join r ys c2 d B2 C h2 h⟩
def Two {α β γ : Type} [Rep α] [Rep β] [Rep γ] (y : α) (a : List β) (c : List γ) : Prop :=
 ∀ w cs B, Rep.dc w cs y B ↔ ∃ v0 v1 B0 B1, cs = [v0, v1] ∧ B = B0 ++ B1 ∧ DS w v0 a B0 ∧ DS w v1 c B1
def HR {α : Type} [Rep α] (o cap : Nat) (xs : List α) (k : Nat) (L1 L2 : List Value) (B1 B2 : List Nat) (w : World) : Prop :=
 ∃ p c1 c2 q, L1 = p ++ c1 ∧ L2 = c2 ++ q ∧ p.length = o ∧ DL w c1 (xs.take k) B1 ∧ DL w c2 (xs.drop (k + 1)) B2 ∧ xs.length ≤ cap ∧ cap ≤ maxLen
theorem HR.frame {α : Type} [Rep α] {o cap : Nat} {xs : List α} {k : Nat} {L1 L2 : List Value} {B1 B2 : List Nat} (h : HR o cap xs k L1 L2 B1 B2 w) (hf : ∀ b ∈ B1 ++ B2, w'.heap[b]? = w.heap[b]?) : HR o cap xs k L1 L2 B1 B2 w' := by
 obtain ⟨p, c1, c2, q, e1, e2, e3, h1, h2, h3, h4⟩ := h
 exact ⟨p, c1, c2, q, e1, e2, e3, DL.frame _ _ _ h1 fun b hb => hf b (by simp [hb]), DL.frame _ _ _ h2 fun b hb => hf b (by simp [hb]), h3, h4⟩
end
section
variable {R : Type} {P : Program} {n : Fr} {A : Nat → Prop} {w0 w w' : World} {Q : R → Exit → Act → World → Prop} {ρ ρ' : Env} {Γ Γ' : Ctx} {E : Option R} {B : List Nat}
variable {d : Option Nat} {ty : TypeId} {pos : String} {after : Array Edge} {g : Option (Nat × Bool)}
end
end Go.Tc
namespace Go.Tc
open Go Go.RowKit
def jmp (js : List Code) (k : Int) : Option Code := match k with
 | .ofNat (m + 1) => js[m]?
 | _ => none
def exOf : Option Code → Option Exit
 | none => some .normal
 | some .ret => some .ret
 | some (.exit id) => some (.exit id)
 | _ => none
structure Lp where
 fn : FuncId
 tm : Array Value
 ps : Array Tmp
 assign : Code
 body : Code
 D : Nat
def Lp.rcd (L : Lp) (st : LoopState) (pe : Option Code) : Loop := { state := st, pending := pe, fn := L.fn, tmps := L.tm, params := L.ps, assign := L.assign, body := L.body, defers := L.D }
def stOf (j : Option Code) : LoopState := if j.isNone then .ready else .done
theorem stOf_ne (j : Option Code) : stOf j ≠ .busy := by cases j <;> simp [stOf]
def lpF (l : Nat) (L : Lp) (js : List Code) (k : Int) : Fact := .inv [l] (fun w => w.heap[l]? = some (.loop (L.rcd (stOf (jmp js k)) (jmp js k))))
def lbF (l : Nat) (L : Lp) : Fact := .inv [l] (fun w => w.heap[l]? = some (.loop (L.rcd .busy none)))
def dfF (D : Nat) : Fact := .inv [D] (fun w => w.heap[D]? = some (.deferred (some [])))
def mkD (D : Nat) : Deferred := { target := .collected D, args := #[] }
structure LpOk (n : Fr) (ρ : Env) (ps : Array Tmp) (assign body : Code) (L : Lp) : Prop where
 e1 : L.ps = ps
 e2 : L.assign = assign
 e3 : L.body = body
 sat : Sat ⟨n.n, [], none⟩ ρ { tmps := L.tm, defers := [] }
section
variable {R : Type} {P : Program} {n nc : Fr} {A : Nat → Prop} {w0 w w' : World} {Q : R → Exit → Act → World → Prop} {ρ ρ' ρc : Env} {Γ Γ' : Ctx} {E : Option R}
variable {d : Option Nat} {ty : TypeId} {pos : String} {after : Array Edge} {g : Option (Nat × Bool)}
theorem SH.inv_get {B : List Nat} {I : World → Prop} (h : SH A w0 w Γ) (i : Nat) (hi : Γ[i]? = some (.inv B I)) : I w := h.get i hi w (fun _ _ => rfl)
theorem SH.inv_set {b : Nat} {I I' : World → Prop} {o : Obj} (h : SH A w0 w Γ) (i : Nat) (hi : Γ[i]? = some (.inv [b] I)) (hI : ∀ w', w'.heap[b]? = some o → I' w') :
  SH A w0 (w.putObj b o) (Γ.set i (.inv [b] I')) := by
 have hb : b ∈ Γ.owns := List.mem_flatMap.2 ⟨_, List.mem_of_getElem? hi, by simp [Fact.owns]⟩
 have hlt := (h.ge b hb).2
 have hg : Grow w (w.putObj b o) [b] := ⟨rfl, rfl, rfl, by simp, fun k _ hk => World.putObj_heap_other (by simpa using hk)⟩
 refine h.set hi hg (by simp [Fact.owns]) (fun c hc => ⟨.inl hc, ?_⟩) ?_
 ·simp [Fact.owns] at hc
  subst hc
  simpa using hlt
 ·intro w2 hw2
  refine hI w2 ?_
  rw [hw2 b (by simp)]
  exact World.putObj_heap_same hlt
theorem SH.inv_end {b : Nat} {I : World → Prop} {o : Obj} (h : SH A w0 w Γ) (i : Nat) (hi : Γ[i]? = some (.inv [b] I)) :
  SH A w0 (w.putObj b o) (Γ.set i (.pr True)) := by
 have hg : Grow w (w.putObj b o) [b] := ⟨rfl, rfl, rfl, by simp, fun k _ hk => World.putObj_heap_other (by simpa using hk)⟩
 exact h.set hi hg (by simp [Fact.owns]) (fun c hc => by simp [Fact.owns] at hc) trivial
theorem SH.inv_new {o : Obj} {I : World → Prop} (h : SH A w0 w Γ) (hI : ∀ w', w'.heap[w.heap.size]? = some o → I w') : SH A w0 (w.alloc o) (.inv [w.heap.size] I :: Γ) := by
 refine h.cons (Grow.alloc w o []) (by simp [Fact.owns]) (by simp [Fact.owns]) ?_
 intro w2 hw2
 refine hI w2 ?_
 rw [hw2 _ (by simp)]
 exact heap_alloc_new w o
def BehindF (n : Fr) (A : Nat → Prop) (w0 : World) (Q : R → Exit → Act → World → Prop) (ρ : Env) (l D : Nat) (L : Lp) (js : List Code) (K : R → Value → World → Prop) : Prop :=
 ∀ (k : Int) (e : Exit), exOf (jmp js k) = some e → ∀ (Γ' : Ctx) (E' : Option R) (i : Nat), Γ'[i]? = some (lpF l L js k) → N ⟨n.n, mkD D :: n.ds, none⟩ A w0 Q e ρ (Γ'.set i (.pr True)) E' → ∀ r, E' = some r → ∀ u w, SH A w0 w Γ' → K r u w
theorem J_rangef {g : Operand} {ps : Array Tmp} {assign body bodyI : Code} {gf nI : Nat} {fnI : Func} {lb : List Value} {ρI : Env} (js : List Code)
  (hg : ev ρ g = some (.func (.func gf) #[] lb.toArray)) (hf : ∀ args w, (callFunc gf args).run P w = .ok (.enter gf args) w)
  (hfn : P.funcs[gf]? = some fnI) (hb : fnI.body = some bodyI) (hn : fnI.ntmps = nI) (hl : Nat.ble (lb.length + 1) nI = true) (hρ : enum 1 lb = ρI)
  (h : ∀ (l D : Nat) (L : Lp) (K : R → Value → World → Prop), LpOk n ρ ps assign body L → BehindF n A w0 Q ρ l D L js K → J P ⟨nI, [], none⟩ A w0 bodyI (QInl P fnI K) ((0, .func (.yield l) #[] #[]) :: ρI) (lpF l L js 0 :: dfF D :: Γ) E)
  (ho : n.o = none := by rfl) : J P n A w0 (.rangeFunc g ps assign body) Q ρ Γ E := by
 intro r hr a w hs hh
 refine wpIn_rangeFunc fun fn _ => ?_
 obtain ⟨L, hLe⟩ : ∃ L : Lp, L = ⟨fn, a.tmps, ps, assign, body, w.heap.size⟩ := ⟨_, rfl⟩
 have hL : LpOk n ρ ps assign body L := by
  subst hLe
  exact ⟨rfl, rfl, rfl, ⟨hs.size, rfl, hs.get⟩⟩
 have h1 : SH A w0 (w.alloc (.deferred (some []))) (dfF w.heap.size :: Γ) := hh.inv_new fun _ h => h
 obtain ⟨W1, hW1⟩ : ∃ W1, (w.alloc (.deferred (some []))).alloc (.loop (L.rcd .ready none)) = W1 := ⟨_, rfl⟩
 have h2 : SH A w0 W1 (lpF (w.heap.size + 1) L js 0 :: dfF w.heap.size :: Γ) := by
  have := h1.inv_new (o := .loop (L.rcd .ready none)) (I := fun w' => w'.heap[w.heap.size + 1]? = some (.loop (L.rcd .ready none))) (fun w' h => by simpa using h)
  have e : (w.alloc (Obj.deferred (some []))).heap.size = w.heap.size + 1 := by simp
  rw [e] at this
  rw [← hW1]
  exact this
 refine ⟨w.heap.size + 1, [mkD w.heap.size], W1, { target := .fn (.func gf) lb.toArray, args := #[.func (.yield (w.heap.size + 1)) #[] #[]] }, W1, gf, #[.func (.yield (w.heap.size + 1)) #[] #[]] ++ lb.toArray, W1, ?_, ?_, fun _ _ => trivial, ?_, fun hd => by simp [Fx, Fence.wide] at hd, ?_⟩
 ·rw [show (Fx n.o).round = none from ho, ← hW1, hLe]
  exact run_enterLoop_outer _ _ _ _ _
 ·simp only [resolve, hs.eval hg]
  simp [go_sem]
 ·simp [invoke, go_sem, hf]
 ·have hc : Calls P gf (#[.func (.yield (w.heap.size + 1)) #[] #[]] ++ lb.toArray) W1
    (fun e w' => ∃ u, e = .returned u ∧ ∃ jump w₄, (Instr.endLoop (w.heap.size + 1)).run P w' = .ok jump w₄ ∧ (match jump with | none => Q r .normal { a with defers := mkD w.heap.size :: a.defers } w₄ | some c => c.wpIn (Fx n.o) 0 P (Q r) { a with defers := mkD w.heap.size :: a.defers } w₄)) := by
   refine calls_wp hfn hb ?_
   have hJ := h (w.heap.size + 1) w.heap.size L (fun r _ w' => ∃ jump w₄, (Instr.endLoop (w.heap.size + 1)).run P w' = .ok jump w₄ ∧ (match jump with | none => Q r .normal { a with defers := mkD w.heap.size :: a.defers } w₄ | some c => c.wpIn (Fx n.o) 0 P (Q r) { a with defers := mkD w.heap.size :: a.defers } w₄)) hL ?_
   ·refine hJ r hr _ _ ⟨?_, rfl, ?_⟩ h2
    ·simp [Nat.ble_eq] at hl
     simp [hn]; omega
    ·intro t u ht
     have he : ((0, Value.func (.yield (w.heap.size + 1)) #[] #[]) :: ρI) = enum 0 (.func (.yield (w.heap.size + 1)) #[] #[] :: lb) := by rw [← hρ]; rfl
     rw [he] at ht
     obtain ⟨_, h2⟩ := enum_get _ 0 t u ht
     rw [Nat.sub_zero] at h2
     have hlt := (List.getElem?_eq_some_iff.1 h2).1
     simp [Nat.ble_eq] at hl
     simp only [List.length_cons] at hlt
     refine ⟨?_, show t < nI by omega⟩
     have e2 : (#[Value.func (.yield (w.heap.size + 1)) #[] #[]] ++ lb.toArray) = (.func (.yield (w.heap.size + 1)) #[] #[] :: lb).toArray := by simp
     rw [e2, Array.getD_eq_getD_getElem?, Array.getElem?_append_left (by simpa using hlt), List.getElem?_toArray, h2]
     rfl
   ·intro k e he Γ' E' i hi hN r' hE u w' hw'
    have hl' : w'.heap[w.heap.size + 1]? = some (.loop (L.rcd (stOf (jmp js k)) (jmp js k))) := hw'.inv_get i hi
    have hrun := run_endLoop (P := P) hl' (stOf_ne _)
    refine ⟨_, _, hrun, ?_⟩
    have hs' : Sat ⟨n.n, mkD w.heap.size :: n.ds, none⟩ ρ { a with defers := mkD w.heap.size :: a.defers } := ⟨hs.size, by rw [hs.defers], hs.get⟩
    have hq := hN r' hE _ _ hs' (hw'.inv_end (o := .loop { L.rcd (stOf (jmp js k)) (jmp js k) with state := .exhausted }) i hi)
    show match jmp js k with | none => _ | some c => _
    cases hj : jmp js k with
    | none =>
     rw [hj] at he
     simp only [exOf, Option.some.injEq] at he
     subst he
     rw [hj] at hq
     exact hq
    | some c =>
     rw [hj] at he hq
     cases c <;> simp only [exOf, Option.some.injEq, reduceCtorEq] at he
     ·subst he; exact wpIn_exit hq
     ·subst he; exact wpIn_ret hq
  refine CallsIn.mono (calls_in n.o _ hc) ?_
  rintro e w' ⟨u, rfl, hu⟩
  exact hu
theorem N_inlF {fn : Func} {n2 : Fr} {ρ2 : Env} {l D : Nat} {L : Lp} {js : List Code} {K : R → Value → World → Prop} {e : Exit} (k : Int) (e' : Exit) (he : e = .ret ∨ e = .normal) (hK : BehindF n A w0 Q ρ l D L js K) (hj : exOf (jmp js k) = some e') (hres : fn.results = #[]) (i : Nat) (hi : Γ[i]? = some (lpF l L js k))
  (h : N ⟨n.n, mkD D :: n.ds, none⟩ A w0 Q e' ρ (Γ.set i (.pr True)) E) (hds : n2.ds = [] := by rfl) : N n2 A w0 (QInl P fn K) e ρ2 Γ E := by
 intro r hr a w hs hh
 have key : a.defers = [] ∧ ∃ u, (results fn a.tmps).run P w = .ok u w ∧ (∃ u', Ending.returned u = .returned u' ∧ K r u' w) := by
  refine ⟨hs.defers.trans hds, .tuple #[], ?_, _, rfl, hK k e' hj Γ E i hi h r hr _ w hh⟩
  rw [results_rv, hres]
  simp
 rcases he with rfl | rfl <;> exact leaves0 key.1 key.2
theorem operIn_map {F : Fence} {m : Nat} {o : Oper} {a : Act} {w : World} {K K' : Act → World → Prop} {Q Q' : Exit → Act → World → Prop} (hK : ∀ a w, K a w → K' a w) (hq : ∀ c a w, Q (.panic c) a w → Q' (.panic c) a w) (hO : LetsOut Q → LetsOut Q')
  (h : o.wpIn F m P a w K Q) : o.wpIn F m P a w K' Q' := by
 refine ⟨h.1, ?_⟩
 have h := h.2
 generalize (o.semAt F.round a.eval).run P w = x at h
 cases x with
 | ok n w' =>
  cases n <;> simp only [Oper.uponIn] at h ⊢ <;>
   first
    | exact hK _ _ h
    | exact ⟨h.1, CallsIn.mono h.2 (fun e w'' he => by cases e <;> first | exact hK _ _ he | exact hq _ _ _ he | exact hO he)⟩
    | exact ⟨h.1, RowsIn.mono h.2 (fun _ _ he => hK _ _ he)⟩
    | exact ⟨h.1, RoundIn.mono h.2 (fun e w'' he => by cases e <;> first | exact hK _ _ he | exact hq _ _ _ he | exact hO he)⟩
 | halt x w' => cases x <;> simp only [Oper.uponIn] at h ⊢ <;> first | exact h | exact hq _ _ _ h
def QY (P : Program) (o : Option Nat) (ops : Array Oper) (rest : List Oper) (Q : R → Exit → Act → World → Prop) : R → Exit → Act → World → Prop := fun r e a w => match e with
 | .normal => wpListIn (Fx o) 0 P ops (Q r) rest a w
 | _ => False
theorem listIn_app {F : Fence} {m : Nat} {ops : Array Oper} {Q Q' : Exit → Act → World → Prop} {rest : List Oper} (hn : ∀ a w, Q .normal a w → wpListIn F m P ops Q' rest a w) (hq : ∀ c a w, ¬ Q (.panic c) a w) (hO : ¬ LetsOut Q) : ∀ (l : List Oper) (a : Act) (w : World), wpListIn F m P ops Q l a w → wpListIn F m P ops Q' (l ++ rest) a w
 | [], _, _, h => hn _ _ h
 | o :: l, a, w, h => by
  rw [List.cons_append]
  unfold wpListIn at h ⊢
  split
  ·rename_i hw
   rw [if_pos hw] at h
   exact operIn_map (fun a w h => listIn_app hn hq hO l a w h) (fun c a w h => absurd h (hq c a w)) (fun h => absurd h hO) h
  ·rename_i hw
   rw [if_neg hw] at h
   exact ⟨h.1, listIn_app hn hq hO l _ w h.2⟩
theorem J_regionY {id : Nat} {l0 : List Oper} (k : Nat) (h : JL P n A w0 l0.toArray (l0.take k) (QY P n.o l0.toArray (l0.drop k) Q) ρ Γ E) (ho : n.o = none := by rfl) : J P n A w0 (.region id l0.toArray false) Q ρ Γ E := by
 intro r hr a w hs hh
 refine wpIn_region_lit ?_
 have h1 := list_in (r := n.o) (noP_out _) (.inl ho) a w (h r hr a w hs hh)
 have h2 := listIn_app (Q' := Q r) (rest := l0.drop k) (fun a w h => h) (fun _ _ _ h => h) (noP_out _) _ a w h1
 rwa [List.take_append_drop] at h2
def BehindY (P : Program) (n : Fr) (A : Nat → Prop) (w0 : World) (ops : Array Oper) (rest : List Oper) (Q : R → Exit → Act → World → Prop) (d : Nat) (ρ : Env) (K : R → Value → World → Prop) : Prop :=
 ∀ u Γ' E', JL P n A w0 ops rest Q ((d, u) :: ρ) Γ' E' → ∀ r, E' = some r → ∀ w, SH A w0 w Γ' → K r u w
def QAs (P : Program) (l : Nat) (body : Code) (K : R → Value → World → Prop) : R → Exit → Act → World → Prop := fun r e a w =>
 e = .normal ∧ ∃ w2, (Instr.beginRound l).run P w = .ok () w2 ∧ body.wpIn (Fx (some l)) 0 P (roundPost P l (fun e w => ∃ u, e = .returned u ∧ K r u w)) a w2
def QRd (P : Program) (l : Nat) (K : R → Value → World → Prop) : R → Exit → Act → World → Prop := fun r => roundPost P l (fun e w => ∃ u, e = .returned u ∧ K r u w)
def bindE : List Tmp → List Value → Env → Env
 | p :: ps, v :: vs, ρ => bindE ps vs ((p, v) :: ρ)
 | _, _, ρ => ρ
theorem sat_bind : ∀ (ps : List Tmp) (vs : List Value) {n : Fr} {ρ : Env} {tm : Array Value}, (ps.all fun p => Nat.blt p n.n) = true → Sat n ρ { tmps := tm, defers := [] } → Sat n (bindE ps vs ρ) { tmps := (ps.zip vs).foldl (fun t (p, v) => t.setIfInBounds p v) tm, defers := [] }
 | [], _, _, _, _, _, h => by simpa [bindE] using h
 | p :: ps, [], _, _, _, _, h => by simpa [bindE] using h
 | p :: ps, v :: vs, n, ρ, tm, hp, h => by
  simp only [List.all_cons, Bool.and_eq_true, Nat.blt_eq] at hp
  rw [bindE, List.zip_cons_cons, List.foldl_cons]
  refine sat_bind ps vs (by simpa [Nat.blt_eq] using hp.2) ?_
  have := h.put (v := v) hp.1
  simpa [Act.put] using this
theorem N_yield {l0 rest : List Oper} {k d l : Nat} {o : Operand} {args : List Operand} {ats : Array TypeId} {vs : List Value} {L : Lp} {js : List Code} {ps : List Tmp} {assign body : Code} {ρr : Env}
  (hdrop : l0.drop k = ⟨some d, .call ⟨.value o, args.toArray, ats⟩, ty, pos, after, g⟩ :: rest) (hw : Wants n ρ l0.toArray ⟨some d, .call ⟨.value o, args.toArray, ats⟩, ty, pos, after, g⟩) (hd : Nat.blt d n.n = true)
  (hy : ev ρ o = some (.func (.yield l) #[] #[])) (hargs : evL ρ args = some vs) (i : Nat) (hi : Γ[i]? = some (lpF l L js 0)) (hL : LpOk nc ρc ps.toArray assign body L) (hlen : Nat.beq vs.length ps.length = true) (hps : (ps.all fun p => Nat.blt p nc.n) = true) (hρ : bindE ps vs ρc = ρr)
  (h : ∀ K : R → Value → World → Prop, BehindY P n A w0 l0.toArray rest Q d ρ K → J P ⟨nc.n, [], some l⟩ A w0 assign (QAs P l body K) ρr Γ E) (ho : n.o = none := by rfl) : N n A w0 (QY P n.o l0.toArray (l0.drop k) Q) .normal ρ Γ E := by
 intro r hr a w hs hh
 show wpListIn (Fx n.o) 0 P l0.toArray (Q r) (l0.drop k) a w
 rw [hdrop]
 refine wpListIn_step fun K hK => ?_
 rw [hw a hs]
 simp only [if_true]
 refine ⟨fun _ _ => trivial, ?_⟩
 have hl : w.heap[l]? = some (.loop (L.rcd .ready none)) := hh.inv_get i hi
 have hln : vs.length = ps.length := Nat.eq_of_beq_eq_true hlen
 have hrun : (execOp a.eval ⟨some d, .call ⟨.value o, args.toArray, ats⟩, ty, pos, after, g⟩).run P w = .ok (.round l L.fn ((ps.zip vs).foldl (fun t (p, v) => t.setIfInBounds p v) L.tm) assign body) w := by
  have hyr := run_yield (P := P) (args := vs.toArray) hl (by show vs.toArray.size = L.ps.size; rw [hL.e1]; simp [hln])
  have e3 : (L.rcd .ready none).params = ps.toArray := hL.e1
  have e4 : (L.rcd .ready none).tmps = L.tm := rfl
  have e5 : (L.rcd .ready none).assign = assign := hL.e2
  have e6 : (L.rcd .ready none).body = body := hL.e3
  rw [e3, e4, e5, e6] at hyr
  have e7 : (ps.toArray.zip vs.toArray).foldl (fun (tmps : Array Value) (x : Tmp × Value) => match x with | (t, a) => tmps.setIfInBounds t a) L.tm = (ps.zip vs).foldl (fun t (p, v) => t.setIfInBounds p v) L.tm := by simp
  rw [e7] at hyr
  simp [execOp, resolve, Deferred.ofValue, invoke, hs.eval hy, hs.evalL hargs, hyr]
  rfl
 have hsem : (Oper.semAt (Fx n.o).round a.eval ⟨some d, .call ⟨.value o, args.toArray, ats⟩, ty, pos, after, g⟩) = execOp a.eval ⟨some d, .call ⟨.value o, args.toArray, ats⟩, ty, pos, after, g⟩ := Oper.semAt_eq _ _ _ (fun c e => by cases e)
 rw [hsem, hrun, Oper.uponIn_round]
 refine ⟨fun hdp => by simp [Fx, Fence.wide] at hdp, ?_⟩
 have hJ := h (fun r u w' => wpListIn (Fx n.o) 0 P l0.toArray (Q r) rest (a.put (some d) u) w') (fun u Γ' E' hJL r hE w hw' =>
  listIn_mono (fun _ _ _ => noP_to) _ _ _ (list_in (noP_out _) (.inl ho) _ _ (hJL r hE _ w (hs.put (by simpa [Nat.blt_eq] using hd)) hw')))
 have hR : RoundIn (Fx none) 0 P l L.fn ((ps.zip vs).foldl (fun t (p, v) => t.setIfInBounds p v) L.tm) assign body w (fun e w => ∃ u, e = .returned u ∧ wpListIn (Fx n.o) 0 P l0.toArray (Q r) rest (a.put (some d) u) w) := by
  refine roundIn_of_wpIn trivial ?_
  have hs2 : Sat ⟨nc.n, [], some l⟩ ρr { tmps := (ps.zip vs).foldl (fun t (p, v) => t.setIfInBounds p v) L.tm, defers := [] } := by
   rw [← hρ]
   have := sat_bind ps vs (n := ⟨nc.n, [], none⟩) hps hL.sat
   exact ⟨this.size, this.defers, this.get⟩
  refine Code.wpIn_mono ?_ (hJ r hr _ w hs2 hh)
  rintro e a2 w2 ⟨rfl, h3⟩
  exact h3
 rw [show Fx n.o = Fx none by rw [ho]] at *
 refine RoundIn.mono hR ?_
 rintro e w2 ⟨u, rfl, hu⟩
 exact hK _ _ hu
theorem N_begin {nr : Fr} {l : Nat} {L : Lp} {js : List Code} {body : Code} {K : R → Value → World → Prop} (i : Nat) (hi : Γ[i]? = some (lpF l L js 0)) (ho : nr.o = some l)
  (h : J P nr A w0 body (QRd P l K) ρ (Γ.set i (lbF l L)) E) : N nr A w0 (QAs P l body K) .normal ρ Γ E := by
 intro r hr a w hs hh
 have hl : w.heap[l]? = some (.loop (L.rcd .ready none)) := hh.inv_get i hi
 refine ⟨rfl, _, run_beginRound hl rfl, ?_⟩
 have := h r hr a _ hs (hh.inv_set (o := .loop { L.rcd .ready none with state := .busy }) i hi (fun _ h => h))
 rw [ho] at this
 exact this
theorem N_endRound {nr : Fr} {ops : Array Oper} {rest : List Oper} {d l : Nat} {L : Lp} {js : List Code} {K : R → Value → World → Prop} {ρr : Env} {e : Exit} (k : Int) (b : Bool) (he : exOf (jmp js k) = some e) (hb : (jmp js k).isNone = b) (i : Nat) (hi : Γ[i]? = some (lbF l L)) (hK : BehindY P n A w0 ops rest Q d ρ K)
  (h : JL P n A w0 ops rest Q ((d, .bool b) :: ρ) (Γ.set i (lpF l L js k)) E) : N nr A w0 (QRd P l K) e ρr Γ E := by
 intro r hr a w hs hh
 have hl : w.heap[l]? = some (.loop (L.rcd .busy none)) := hh.inv_get i hi
 have fin : ∀ j, jmp js k = j → ∃ v w', (Instr.endRound l j).run P w = .ok v w' ∧ ∃ u, Ending.returned v = .returned u ∧ K r u w' := by
  rintro j rfl
  have hq : K r (.bool (jmp js k).isNone) (w.putObj l (.loop { L.rcd .busy none with state := if (jmp js k).isNone then .ready else .done, pending := jmp js k })) := by
   have h' := h
   rw [← hb] at h'
   exact hK _ _ E h' r hr _ (hh.inv_set i hi (fun w' h => h))
  exact ⟨_, _, run_endRound _ hl, _, rfl, hq⟩
 cases hj : jmp js k with
 | none =>
  rw [hj] at he
  simp only [exOf, Option.some.injEq] at he
  subst he
  exact fin none hj
 | some c =>
  rw [hj] at he
  cases c <;> simp only [exOf, Option.some.injEq, reduceCtorEq] at he
  ·subst he; exact fin _ hj
  ·subst he; exact fin _ hj
theorem N_take {fn : Func} {X : R → Ending → World → Prop} {k D : Nat} {ds : List Deferred} {e : Exit} (i : Nat) (he : e = .ret ∨ e = .normal) (hi : Γ[i]? = some (dfF D))
  (h : N ⟨k, ds, none⟩ A w0 (fun r => bodyPostM (Fx none) 0 P fn (X r)) e ρ (Γ.set i (.pr True)) E) : N ⟨k, mkD D :: ds, none⟩ A w0 (fun r => bodyPostM (Fx none) 0 P fn (X r)) e ρ Γ E := by
 intro r hr a w hs hh
 have hd : w.heap[D]? = some (.deferred (some [])) := hh.inv_get i hi
 have hs' : Sat ⟨k, ds, none⟩ ρ { a with defers := ds } := ⟨hs.size, rfl, hs.get⟩
 have hq := h r hr _ _ hs' (hh.inv_end (o := .deferred none) i hi)
 have ha : a.defers = mkD D :: ds := hs.defers
 have key : LeavesInM (Fx none) 0 P fn a.tmps (X r) ds .returning (w.putObj D (.deferred none)) → LeavesInM (Fx none) 0 P fn a.tmps (X r) a.defers .returning w := by
  intro hx
  rw [ha]
  exact ⟨by simp, .inl ⟨D, _, rfl, run_takeDeferred hd, hx⟩⟩
 rcases he with rfl | rfl <;> exact key hq
theorem rv_cell1 {p : Nat} {t t' : TypeId} {b off : Nat} {cs : List Value} {v : Value} (i : Nat) (hp : ρ.get p = some (.pointer (some ⟨b, off, none⟩))) (hi : Γ[i]? = some (.bx b t' cs)) (ht : tinf P t = some (1, false)) (hc : cs[off]? = some v) : Rv P n A w0 ρ Γ (.cell p t) v := fun a w hs hh => by
 have h1 := (hs.get p _ hp).1
 have hb := hh.get i hi
 have hc2 := cell_of_bx hb hc
 simp only [rvSem, h1]
 simp [asAddr, loadVar, tinf_agg ht, run_load, hc2]
end
end Go.Tc
namespace Go.Tc
open Go Go.RowKit
section
variable {R : Type} {P : Program} {n : Fr} {A : Nat → Prop} {w0 w : World} {Q : R → Exit → Act → World → Prop} {ρ ρ' : Env} {Γ Γ' : Ctx} {E : Option R}
variable {d : Option Nat} {ty : TypeId} {pos : String} {after : Array Edge} {g : Option (Nat × Bool)}
end
end Go.Tc
namespace Go.Tc
open Go Go.RowKit
section
variable {R : Type} {P : Program} {n : Fr} {A : Nat → Prop} {w0 w w1 w' : World} {Q : R → Exit → Act → World → Prop} {ρ ρ' : Env} {Γ Γ' : Ctx} {E : Option R}
variable {d : Option Nat} {ty : TypeId} {pos : String} {after : Array Edge} {g : Option (Nat × Bool)}
end
section
variable {R : Type} {P : Program} {n : Fr} {A : Nat → Prop} {w0 w1 : World} {Q : R → Exit → Act → World → Prop} {ρ ρ' : Env} {Γ Γ' Γ1 : Ctx} {E : Option R} {ops : Array Oper} {O : List Nat} {fuel : Nat} {listed : Array Bool}
theorem N_inlD4 {fn : Func} {n2 : Fr} {ρ2 : Env} {i d : Nat} {is1 : List Nat} {C : Nat → Prop} {K : R → Value → World → Prop} {rv1 rv2 rv3 rv4 : ResultVar} {u1 u2 u3 u4 : Value} (hK : BehindD P n A w0 w1 Γ1 ops O fuel listed Q i d ρ is1 C K) (hres : fn.results = #[rv1, rv2, rv3, rv4]) (hu1 : Rv P n2 A w0 ρ2 Γ rv1 u1) (hu2 : Rv P n2 A w0 ρ2 Γ rv2 u2) (hu3 : Rv P n2 A w0 ρ2 Γ rv3 u3) (hu4 : Rv P n2 A w0 ρ2 Γ rv4 u4) (p : Nat) (is2 : List Nat) (hp : Γ[p]? = some (.fz w1 C)) (hsel : sel is2 Γ = sel is1 Γ1)
  (h : JD P n A w0 w1 Γ1 ops O fuel (listed.setIfInBounds i true) Q ((d, .tuple #[u1, u2, u3, u4]) :: ρ) Γ E) (hds : n2.ds = [] := by rfl) : N n2 A w0 (QInl P fn K) .ret ρ2 Γ E := by
 intro r hr a w hs hh
 refine leaves0 (hs.defers.trans hds) ⟨.tuple #[u1, u2, u3, u4], ?_, _, rfl, hK _ _ _ p is2 hp hsel h r hr w hh⟩
 rw [results_rv, hres]
 simp [hu1 a w hs hh, hu2 a w hs hh, hu3 a w hs hh, hu4 a w hs hh]
end
end Go.Tc
