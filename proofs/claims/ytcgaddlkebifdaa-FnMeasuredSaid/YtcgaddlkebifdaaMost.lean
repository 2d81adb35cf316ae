/-
  Rows as cells alone; functions that turn an own row round. No condition.
  Functions that store through what they are handed: boxes and rows of the caller's go in, and come back with what they hold then. No condition.
  Arrays of numbers inside boxes: parts of them copied, read and written at an index. No condition.
  Ranges over a map, in whatever order its entries come. No condition.
  Tokens that go over one by one: a row with tokens is read from its begin on, and what is taken out takes its tokens along. No condition.
  Own rows in full, their inner rows too; an element of such a row, opened and closed; tokens that become own rows again. No condition.
  Ranges over functions: the function that is ranged over and the rounds are walked in place. No condition.
  Bytes and parts of texts. No condition.
  Functions that strike elements out of an own row by a function value (slices.DeleteFunc). No condition.
  Interface values of known dynamic types: made, and their methods called. No condition.
-/
import Derived.Test.YtcgaddlkebifdaaMore
import Derived.Maps.RangeRun
namespace Go.Tc
open Go Go.RowKit

/-- A cell's value, as a datum. -/
structure Vc where
  v : Value
  one : v.oneCell' = true
instance : Rep Vc where
  sz := 1
  agg := false
  rdc _ _ cs x := cs = [x.v]
  len h := by subst h; rfl
  one := by
    intro A w cs x h c hc
    subst h
    simp at hc
    subst hc
    exact x.one
  pos := by decide
  single _ := rfl
  frame h _ := h
  dc _ cs x B := cs = [x.v] ∧ B = []
  dcf h _ := h
  dcr h _ := h.1
  dlt h b hb := by simp [h.2] at hb
  flat := true
  flt _ h := ⟨h, rfl⟩
theorem vcs_of : ∀ (cells : List Value), (∀ c ∈ cells, c.oneCell' = true) → ∃ vs : List Vc, vs.map Vc.v = cells
  | [], _ => ⟨[], rfl⟩
  | c :: r, h => by
    obtain ⟨vs, e⟩ := vcs_of r fun d hd => h d (by simp [hd])
    exact ⟨⟨c, h c (by simp)⟩ :: vs, by simp [e]⟩
theorem rdl_vc {A : Nat → Prop} {w : World} : ∀ (vs : List Vc), RdL A w (vs.map Vc.v) vs
  | [] => rfl
  | x :: r => ⟨[x.v], r.map Vc.v, rfl, rfl, rdl_vc r⟩
theorem rdl_vc_eq {A : Nat → Prop} {w : World} : ∀ (vs : List Vc) (cs : List Value), RdL A w cs vs → cs = vs.map Vc.v
  | [], _, h => h
  | x :: r, _, ⟨c1, c2, e, h1, h2⟩ => by
    have h1 : c1 = [x.v] := h1
    rw [e, h1, rdl_vc_eq r c2 h2]
    rfl
theorem RdL.rev {α : Type} [Rep α] {A : Nat → Prop} {w : World} (hs : Rep.sz α = 1) : ∀ (xs : List α) (cs : List Value), RdL A w cs xs → RdL A w cs.reverse xs.reverse
  | [], _, h => by simp [RdL] at h; simp [RdL, h]
  | x :: r, _, ⟨c1, c2, e, h1, h2⟩ => by
    have hl := Rep.len h1
    rw [hs] at hl
    match c1, hl with
    | [c], _ =>
      subst e
      rw [List.singleton_append, List.reverse_cons, List.reverse_cons]
      exact RdL.append _ _ _ _ (RdL.rev hs r c2 h2) ⟨[c], [], rfl, h1, rfl⟩
def rev {α : Type} (xs : List α) : Option (List α) := if xs.length ≤ 1099511627776 then some xs.reverse else none
/-- What a function that turns an own row round does. -/
def RevCon (P : Program) (f : FuncId) (e : TypeId) : Prop :=
  ∀ (w : World) (v : Value) (xs ys : List Vc), Ow (fun k => k ∈ v.ownBlock.toList) w e v xs → (∀ b ∈ v.ownBlock.toList, b < w.heap.size) → rev xs = some ys →
    Calls P f #[v] w fun r w' => r = .returned (.tuple #[]) ∧ Ow (fun k => k ∈ v.ownBlock.toList) w' e v ys ∧ Grow w w' v.ownBlock.toList
section
variable {R : Type} {P : Program} {n : Fr} {A : Nat → Prop} {w0 w w' : World} {Q : R → Exit → Act → World → Prop} {ρ ρ' : Env} {Γ Γ' : Ctx} {E : Option R}
variable {d : Option Nat} {ty : TypeId} {pos : String} {after : Array Edge} {g : Option (Nat × Bool)}
theorem N_ret0 {fn : Func} {G : Type} {v : R → G → Value} {fs : R → G → Ctx} {r : R} {e : Exit} (he : e = .ret ∨ e = .normal) (hres : fn.results = #[])
    (h : ∀ w, SH A w0 w Γ → ∃ x, .tuple #[] = v r x ∧ SH A w0 w (fs r x)) (hds : n.ds = [] := by rfl) : N n A w0 (QBody P fn (Post A w0 v fs)) e ρ Γ (some r) := by
  rintro r' hr a w hs hh
  cases hr
  have key : a.defers = [] ∧ ∃ u, (results fn a.tmps).run P w = .ok u w ∧ Post A w0 v fs r (.returned u) w := by
    refine ⟨hs.defers.trans hds, .tuple #[], ?_, ?_⟩
    · rw [results_rv, hres]
      simp
    · obtain ⟨x, e, hx⟩ := h w hh
      exact ⟨x, by rw [e], hx⟩
  rcases he with rfl | rfl <;> exact leaves0 key.1 key.2
theorem RevCon.ow {f : FuncId} {e : TypeId} (hM : RevCon P f e) {α : Type} [Rep α] (hs : Rep.sz α = 1) {A : Nat → Prop} {w : World} {v : Value} {xs ys : List α} (h : Ow A w e v xs) (hA : ∀ b ∈ v.ownBlock.toList, A b) (hb : ∀ b ∈ v.ownBlock.toList, b < w.heap.size) (hr : rev xs = some ys) :
    Calls P f #[v] w fun r w' => r = .returned (.tuple #[]) ∧ Ow A w' e v ys ∧ Grow w w' v.ownBlock.toList := by
  obtain ⟨cells, h1, h2⟩ := h
  obtain ⟨vs, hvs⟩ := vcs_of cells (RdL.one _ _ h2)
  have hl := RdL.length _ _ h2
  rw [hs, Nat.mul_one] at hl
  have hvl : vs.length = xs.length := by rw [← hl, ← hvs, List.length_map]
  unfold rev at hr
  split at hr
  · rename_i hle
    have hO : Ow (fun k => k ∈ v.ownBlock.toList) w e v vs := ⟨cells, by rw [hvl]; rw [hs] at h1; exact h1, by rw [← hvs]; exact rdl_vc vs⟩
    refine (hM w v vs vs.reverse hO hb (by unfold rev; rw [hvl, if_pos hle])).mono ?_
    rintro r w' ⟨rfl, ⟨cells', h3, h4⟩, hg⟩
    refine ⟨rfl, ?_, hg⟩
    have e1 := rdl_vc_eq _ _ h4
    rw [List.map_reverse, hvs] at e1
    subst e1
    rw [← Option.some.inj hr]
    refine ⟨cells.reverse, ?_, RdL.frame (fun k hk hn => ⟨hg.block k hk (fun hm => hn (hA k hm)), hn⟩) _ _ (RdL.rev hs _ _ h2)⟩
    rw [List.length_reverse, ← hvl, hs]
    rw [List.length_reverse] at h3
    exact h3
  · simp at hr
end
end Go.Tc
namespace Go.Tc
open Go Go.RowKit

def restL (w : World) (B : List Nat) : List Nat := (List.range w.heap.size).filter (fun k => !(B.contains k))
theorem mem_restL {w : World} {B : List Nat} {k : Nat} : k ∈ restL w B ↔ k < w.heap.size ∧ k ∉ B := by
  simp [restL]
/-- All that the callee is not handed: no token of its own lies there. -/
abbrev outs (w : World) (B : List Nat) : Fact := .tkn (.int .i64 0) (0 : Int) (restL w B)

/-- Facts that hang on no rows but their own and those of their tokens. -/
def Fact.loose : Fact → Bool
  | @Fact.ow α _ _ _ _ => Rep.flat α
  | @Fact.od _ _ _ _ _ _ => true
  | @Fact.tkn _ _ _ _ _ => true
  | .bx _ _ _ => true
  | .pr _ => true
  | .inv _ _ => true
  | _ => false
theorem Fact.loose_holds {A A' : Nat → Prop} {B B' : Nat} {w : World} {f : Fact} (hl : f.loose = true) (h : f.holds A B w) (ht : ∀ b ∈ f.toks, ¬ A' b) : f.holds A' B' w := by
  cases f with
  | ow e v xs =>
    obtain ⟨cells, h1, h2⟩ := h
    exact ⟨cells, h1, (DL.flat hl _ _ h2).rd _ _ _ (by simp)⟩
  | od e v xs Bs =>
    exact ⟨h.1, fun b hb => ⟨(h.2 b hb).1, ht b hb⟩⟩
  | tkn v x Bs =>
    exact ⟨h.1, fun b hb => ⟨(h.2 b hb).1, ht b hb⟩⟩
  | bx b t cs => exact h
  | pr p => exact h
  | rd v x => simp [Fact.loose] at hl
  | pt v x => simp [Fact.loose] at hl
  | pa v x => simp [Fact.loose] at hl
  | inv B I => exact h
  | fz w1 C => simp [Fact.loose] at hl

/-- The callee's begin: what it is handed, and that all else stands. -/
theorem ptr_start {w : World} {Γin : Ctx} (hn : Γin.owns.Nodup) (hb : ∀ b ∈ Γin.owns, b < w.heap.size) (ht : Γin.toks = []) (hl : Γin.all Fact.loose = true) {A : Nat → Prop} {B : Nat} (hh : ∀ f ∈ Γin, f.holds A B w) :
    SH nowhere (bare w) w (Γin ++ [outs w Γin.owns, rest w Γin.owns]) := by
  have ho : Ctx.owns (Γin ++ [outs w Γin.owns, rest w Γin.owns]) = Γin.owns := by simp [Ctx.owns, Fact.owns]
  have hto : Ctx.toks (Γin ++ [outs w Γin.owns, rest w Γin.owns]) = restL w Γin.owns := by
    have : Ctx.toks (Γin ++ [outs w Γin.owns, rest w Γin.owns]) = Γin.toks ++ restL w Γin.owns := by simp [Ctx.toks, Fact.toks]
    rw [this, ht, List.nil_append]
  refine ⟨⟨rfl, rfl, rfl, by simp [bare], fun k hk => by simp [bare] at hk⟩, fun k hk => hk.elim, by rw [ho]; exact hn, fun b h => ⟨by simp [bare], ?_⟩, ?_, fun b _ => by simp [bare], fun f hf => ?_⟩
  · rw [ho] at h
    exact hb b h
  · rw [hto]
    exact List.nodup_range.filter _
  · rw [ho]
    rcases List.mem_append.1 hf with hf | hf
    · refine Fact.loose_holds (List.all_eq_true.1 hl f hf) (hh f hf) (fun b hbt => ?_)
      have : b ∈ Γin.toks := List.mem_flatMap.2 ⟨f, hf, hbt⟩
      rw [ht] at this
      simp at this
    · simp only [List.mem_cons, List.not_mem_nil, or_false] at hf
      rcases hf with rfl | rfl
      · refine ⟨⟨[], ⟨[.int .i64 0], rfl, rfl, rfl⟩, by simp, by simp⟩, fun b hbr => ⟨(mem_restL.1 hbr).1, ?_⟩⟩
        rintro (hk | hk)
        · exact hk
        · exact (mem_restL.1 hbr).2 hk
      · refine ⟨Nat.le_refl _, fun k hk => ⟨?_, hk.1, rfl⟩⟩
        rintro (hk' | hk')
        · exact hk'.elim
        · exact hk.2 hk'

def PHanded (w : World) (Γin : Ctx) : Prop := Γin.owns.Nodup ∧ (∀ b ∈ Γin.owns, b < w.heap.size) ∧ Γin.toks = [] ∧ Γin.all Fact.loose = true ∧ ∀ f ∈ Γin, f.holds (fun _ => False) 0 w
theorem SH.begin {w : World} {Γin : Ctx} {B : List Nat} (hB : Γin.owns = B) (h : PHanded w Γin) : SH nowhere (bare w) w (Γin ++ [outs w B, rest w B]) := by
  subst hB
  exact ptr_start h.1 h.2.1 h.2.2.1 h.2.2.2.1 h.2.2.2.2
theorem SH.cons_apart {α : Type} [Rep α] {w0 w : World} {Γ : Ctx} {B : List Nat} {v : Value} {x : α} (h : SH nowhere w0 w Γ) (hB : Γ.owns = B) (hr : Rd (fun k => k ∈ B) w v x) : SH nowhere w0 w (.rd v x :: Γ) :=
  h.cons_rd (by
    rw [hB]
    exact hr.weak fun k hk => hk.elim (fun h => h.elim) id)

/-- What a function does that is handed boxes and rows: they, or what has come in their place, are handed back in fs. -/
def PtrCon (P : Program) (f : FuncId) (vs : List Value) (w : World) (B : List Nat) {G : Type} (v : G → Value) (fs : G → Ctx) : Prop :=
  Calls P f vs.toArray w fun e w' => ∃ x, e = .returned (v x) ∧ SH nowhere (bare w) w' (fs x ++ [outs w B, rest w B])

section
variable {R : Type} {P : Program} {n : Fr} {A : Nat → Prop} {w0 w w' : World} {Q : R → Exit → Act → World → Prop} {ρ ρ' : Env} {Γ Γ' Δ : Ctx} {E : Option R} {B : List Nat}
variable {d : Option Nat} {ty : TypeId} {pos : String} {after : Array Edge} {g : Option (Nat × Bool)}

theorem ptr_back {A' : Nat → Prop} {w1 : World} (k : SH A' w1 w' (Δ ++ [outs w B, rest w B])) (hw : w1 = bare w) (hA' : A' = nowhere) :
    Grow w w' B ∧ (∀ b ∈ Δ.owns, b ∈ B ∨ w.heap.size ≤ b) ∧ (∀ b ∈ Δ.toks, b ∈ B ∨ w.heap.size ≤ b) ∧ Δ.owns.Nodup ∧ Δ.toks.Nodup ∧ (∀ b ∈ Δ.owns, b < w'.heap.size) ∧ ∀ b ∈ Δ.toks, b < w'.heap.size ∧ b ∉ Δ.owns := by
  subst hw hA'
  have ho : Ctx.owns (Δ ++ [outs w B, rest w B]) = Δ.owns := by simp [Ctx.owns, Fact.owns]
  have hto : Ctx.toks (Δ ++ [outs w B, rest w B]) = Δ.toks ++ restL w B := by simp [Ctx.toks, Fact.toks]
  have h1 := k.get Δ.length (f := outs w B) (by simp)
  have h2 := k.get (Δ.length + 1) (f := rest w B) (by simp)
  rw [ho] at h1 h2
  have htn := k.tnd
  rw [hto, List.nodup_append] at htn
  refine ⟨⟨k.below.os, k.below.tape, k.below.output, h2.1, fun j hj hb => (h2.2 j ⟨hj, hb⟩).2.2⟩, fun b hb => ?_, fun b hb => ?_, by have := k.nd; rw [ho] at this; exact this, htn.1, fun b hb => (k.ge b (by rw [ho]; exact hb)).2, fun b hb => ?_⟩
  · refine Classical.byContradiction fun hn => ?_
    exact (h2.2 b ⟨by omega, fun h => hn (.inl h)⟩).1 (.inr hb)
  · refine Classical.byContradiction fun hn => ?_
    exact htn.2.2 b hb b (mem_restL.2 ⟨by omega, fun h => hn (.inl h)⟩) rfl
  · have := k.tlt b (by rw [hto]; simp [hb])
    rw [ho] at this
    exact this
/-- What the callee hands back, joined to what the caller has kept. -/
theorem SH.ptr_join (h : SH A w0 w Γ) (is js : List Nat) (hn : ndup (js ++ is) = true) (hB : (Tc.sel is Γ).owns = B) (k : SH nowhere (bare w) w' (Δ ++ [outs w B, rest w B])) (hl : Δ.all Fact.loose = true) :
    SH A w0 w' (Δ ++ Tc.sel js Γ) ∧ Grow w w' B ∧ OwnNew Γ (Δ ++ Tc.sel js Γ) w := by
  obtain ⟨hg, hon, htn, hnd, htd, hlt, htl⟩ := ptr_back k rfl rfl
  have hp := h.persist js is hn hB hg
  have hBo : ∀ b ∈ B, b ∈ Γ.owns := fun b hb => by
    rw [← hB] at hb
    obtain ⟨i, _, f, hf, hbf⟩ := sel_owns is Γ b hb
    exact List.mem_flatMap.2 ⟨f, List.mem_of_getElem? hf, hbf⟩
  have hso : ∀ b ∈ (Tc.sel js Γ).owns, b ∈ Γ.owns := fun b hb => by
    obtain ⟨m, _, f, hf, hbf⟩ := sel_owns js Γ b hb
    exact List.mem_flatMap.2 ⟨f, List.mem_of_getElem? hf, hbf⟩
  have hne : ∀ b ∈ (Tc.sel js Γ).owns, b ∉ B := fun b hb hbB => by
    rw [← hB] at hbB
    obtain ⟨i, hi, f, hf, hbf⟩ := sel_owns js Γ b hb
    obtain ⟨j, hj, f', hf', hbf'⟩ := sel_owns is Γ b hbB
    exact nodup_two h.nd hf hf' ((ndup_append js is hn).2 i hi j hj) hbf hbf'
  have ho : Ctx.owns (Δ ++ Tc.sel js Γ) = Δ.owns ++ (Tc.sel js Γ).owns := by simp [Ctx.owns]
  have hto : Ctx.toks (Δ ++ Tc.sel js Γ) = Δ.toks ++ (Tc.sel js Γ).toks := by simp [Ctx.toks]
  have hge : ∀ b, b ∈ B ∨ w.heap.size ≤ b → w0.heap.size ≤ b := fun b hb => by
    rcases hb with hb | hb
    · exact (h.ge b (hBo b hb)).1
    · exact Nat.le_trans h.lt hb
  have hst : ∀ b ∈ (Tc.sel js Γ).toks, b ∈ Γ.toks := fun b hb => sel_toks js Γ b hb
  refine ⟨⟨hp.below, h.av, ?_, ?_, ?_, ?_, ?_⟩, hg, ?_⟩
  · rw [ho, List.nodup_append]
    refine ⟨hnd, hp.nd, fun a ha b hb e => ?_⟩
    subst e
    rcases hon a ha with h1 | h1
    · exact hne a hb h1
    · have := (h.ge a (hso a hb)).2; omega
  · intro b hb
    rw [ho] at hb
    rcases List.mem_append.1 hb with hb | hb
    · exact ⟨hge b (hon b hb), hlt b hb⟩
    · exact hp.ge b hb
  · rw [hto, List.nodup_append]
    refine ⟨htd, hp.tnd, fun a ha b hb e => ?_⟩
    subst e
    rcases htn a ha with h1 | h1
    · exact (h.tlt a (hst a hb)).2 (hBo a h1)
    · have := (h.tlt a (hst a hb)).1; omega
  · intro b hb
    rw [hto] at hb
    rcases List.mem_append.1 hb with hb | hb
    · exact hge b (htn b hb)
    · exact hp.tge b hb
  · intro f hf
    rcases List.mem_append.1 hf with hf | hf
    · have hk := k.all f (List.mem_append_left _ hf)
      refine Fact.loose_holds (List.all_eq_true.1 hl f hf) hk (fun b hbt => ?_)
      have hbT : b ∈ Δ.toks := List.mem_flatMap.2 ⟨f, hf, hbt⟩
      rintro (hk' | hk')
      · have h1 := h.av b hk'
        have h2 := hge b (htn b hbT)
        omega
      · rw [ho] at hk'
        rcases List.mem_append.1 hk' with hk' | hk'
        · exact (htl b hbT).2 hk'
        · rcases htn b hbT with h1 | h1
          · exact hne b hk' h1
          · have := (h.ge b (hso b hk')).2; omega
    · obtain ⟨m, hm, hmf⟩ := sel_mem js Γ f hf
      refine Fact.frame hg.size (h.all f (List.mem_of_getElem? hmf)) (fun b hb => hg.block b (h.ge b (List.mem_flatMap.2 ⟨f, List.mem_of_getElem? hmf, hb⟩)).2 (hne b (List.mem_flatMap.2 ⟨f, hf, hb⟩))) (fun j hj => hg.block j (Nat.lt_of_lt_of_le hj h.lt) (fun hm => absurd (h.ge j (hBo j hm)).1 (by omega))) (fun j hj ha => ⟨hg.block j hj (fun hm => ha (.inr (hBo j hm))), ?_⟩)
      rintro (hj' | hj')
      · exact ha (.inl hj')
      · rw [ho] at hj'
        rcases List.mem_append.1 hj' with hj' | hj'
        · rcases hon j hj' with h1 | h1
          · exact ha (.inr (hBo j h1))
          · omega
        · exact ha (.inr (hso j hj'))
  · intro b hb
    rw [ho] at hb
    rcases List.mem_append.1 hb with hb | hb
    · rcases hon b hb with h1 | h1
      · exact .inl (hBo b h1)
      · exact .inr h1
    · exact .inl (hso b hb)

/-- What the callee is handed is there. -/
theorem SH.handed {Γin : Ctx} (h : SH A w0 w Γ) (is : List Nat) (hn : ndup is = true) (hin : Tc.sel is Γ = Γin) (hl : Γin.all Fact.loose = true) (ht : Γin.all (fun f => f.toks.isEmpty) = true) :
    PHanded w Γin := by
  subst hin
  refine ⟨sel_nodup is Γ hn h.nd, fun b hb => ?_, ?_, hl, fun f hf => ?_⟩
  · obtain ⟨m, _, f, hf, hbf⟩ := sel_owns is Γ b hb
    exact (h.ge b (List.mem_flatMap.2 ⟨f, List.mem_of_getElem? hf, hbf⟩)).2
  · simp only [Ctx.toks, List.flatMap_eq_nil_iff]
    intro f hf
    simpa using List.all_eq_true.1 ht f hf
  · obtain ⟨m, _, hmf⟩ := sel_mem is Γ f hf
    exact Fact.loose_holds (List.all_eq_true.1 hl f hf) (h.all f (List.mem_of_getElem? hmf)) (fun _ _ h => h)
/-- What is read, read apart from what is handed over. -/
theorem SH.apart {α : Type} [Rep α] {v : Value} {x : α} (h : SH A w0 w Γ) (is : List Nat) (hB : (Tc.sel is Γ).owns = B) (hr : Rd (fun k => A k ∨ k ∈ Γ.owns) w v x) : Rd (fun k => k ∈ B) w v x := by
  refine hr.weak fun k hk => .inr ?_
  rw [← hB] at hk
  obtain ⟨i, _, f, hf, hbf⟩ := sel_owns is Γ k hk
  exact List.mem_flatMap.2 ⟨f, List.mem_of_getElem? hf, hbf⟩

theorem PtrCon_of {k : Nat} {f : FuncId} {fn : Func} {body : Code} {vs : List Value} {G : Type} {v : R → G → Value} {fs : R → G → Ctx} {r : R}
    (hf : P.funcs[f]? = some fn) (hb : fn.body = some body) (hn : fn.ntmps = k) (hl : Nat.ble vs.length k = true) (hΓ : SH nowhere (bare w) w Γ) (hρ : enum 0 vs = ρ)
    (h : J P ⟨k, [], none⟩ nowhere (bare w) body (QBody P fn (Post nowhere (bare w) v (fun r x => fs r x ++ [outs w B, rest w B]))) ρ Γ E) (hE : E = some r) : PtrCon P f vs w B (v r) (fs r) :=
  ConM_of hf hb hn hl hΓ hρ h hE

def CaT (P : Program) (A : Nat → Prop) (w0 : World) (Γ : Ctx) (f : FuncId) (vs : List Value) {G : Type} (v : G → Value) (Γ' : G → Ctx) (T : List Nat) : Prop :=
  ∀ w, SH A w0 w Γ → Calls P f vs.toArray w fun e w' => ∃ x, e = .returned (v x) ∧ SH A w0 w' (Γ' x) ∧ Grow w w' T ∧ OwnNew Γ (Γ' x) w
theorem CaT_of {f : FuncId} {vs : List Value} {G : Type} {v : G → Value} {fs : G → Ctx} (is js : List Nat) (hn : ndup (js ++ is) = true) (hB : (sel is Γ).owns = B) (hl : ∀ x, (fs x).all Fact.loose = true) (h : ∀ w, SH A w0 w Γ → PtrCon P f vs w B v fs) : CaT P A w0 Γ f vs v (fun x => fs x ++ sel js Γ) B :=
  fun w hh => (h w hh).mono fun _ _ ⟨x, he, hk⟩ => ⟨x, he, hh.ptr_join is js hn hB hk (hl x)⟩
theorem JL_callT {ops : Array Oper} {rest : List Oper} {d : Nat} {f : FuncId} {args : List Operand} {ats : Array TypeId} {vs : List Value} {G : Type} {v : G → Value} {Γ' : G → Ctx} {T : List Nat}
    (hw : Wants n ρ ops ⟨some d, .call ⟨.value (.func f), args.toArray, ats⟩, ty, pos, after, g⟩) (hd : Nat.blt d n.n = true)
    (hf : ∀ args w, (callFunc f args).run P w = .ok (.enter f args) w) (hargs : evL ρ args = some vs) (hC : CaT P A w0 Γ f vs v Γ' T)
    (h : ∀ x, JL P n A w0 ops rest Q ((d, v x) :: ρ) (Γ' x) E) : JL P n A w0 ops (⟨some d, .call ⟨.value (.func f), args.toArray, ats⟩, ty, pos, after, g⟩ :: rest) Q ρ Γ E := by
  intro r hr a w hs hh
  refine wpList_step fun K hK => ?_
  rw [hw a hs]
  simp only [if_true]
  unfold Oper.wp
  rw [run_mark hs hf hargs, Oper.upon_enter]
  refine (hC w hh).mono ?_
  rintro e w' ⟨x, rfl, hh', _⟩
  exact hK _ _ (h x r hr _ _ (hs.put (by simpa [Nat.blt_eq] using hd)) hh')
end
end Go.Tc
namespace Go.Tc
open Go Go.RowKit

section
variable {R : Type} {P : Program} {n : Fr} {A : Nat → Prop} {w0 : World} {Q : R → Exit → Act → World → Prop} {ρ ρ' : Env} {Γ Γ' : Ctx} {E : Option R}
variable {d : Option Nat} {ty : TypeId} {pos : String} {after : Array Edge} {g : Option (Nat × Bool)}
end
/-! ### Keys with arrays of numbers in them -/
section
variable {P : Program} {w : World}
end
end Go.Tc
namespace Go.Tc
open Go Go.RowKit

/-! ### Plain -/
section
variable {α S R0 : Type}
open Classical in
end

/-! ### The iterator -/
section
variable {R R0 S G : Type} {P : Program} {n : Fr} {A : Nat → Prop} {w0 w w' : World} {Q : R → Exit → Act → World → Prop} {ρ ρ' : Env} {Γ Γ' : Ctx} {E : Option R}
variable {ty : TypeId} {pos : String} {after : Array Edge} {g : Option (Nat × Bool)}
variable {κ ν : Type} {enc : κ → Value} {venc : ν → Value}
/-- What is known of a map's entries. -/
def Ents (enc : κ → Value) (venc : ν → Value) (m : List (κ × ν)) (es : Array MapEntry) (clock : Nat) : Prop :=
  es.toList.map (fun e => (e.key, e.val)) = m.map (fun p => (enc p.1, venc p.2)) ∧ Stamps es clock
theorem Ents.len {m : List (κ × ν)} {es : Array MapEntry} {clock : Nat} (h : Ents enc venc m es clock) : es.toList.length = m.length := by
  have := congrArg List.length h.1
  simpa using this
end
end Go.Tc
namespace Go.Tc
open Go Go.RowKit

section
variable {α : Type}
theorem tks_append (l m : List (Tk α)) : tks (l ++ m) = tks l ++ tks m := by simp [tks]
/-- The tokens from a place on. -/
def tlB (ts : List (Tk α)) (k : Int) : List Nat := tks (ts.drop k.toNat)
theorem tks_drop (ts : List (Tk α)) (n : Nat) : (tks (ts.drop n)).Sublist (tks ts) := by
  have : tks ts = tks (ts.take n) ++ tks (ts.drop n) := by rw [← tks_append, List.take_append_drop]
  rw [this]
  exact List.sublist_append_right _ _
end
section
variable {R : Type} {P : Program} {n : Fr} {A : Nat → Prop} {w0 w w' : World} {Q : R → Exit → Act → World → Prop} {ρ ρ' : Env} {Γ Γ' : Ctx} {E : Option R}
variable {d : Option Nat} {ty : TypeId} {pos : String} {after : Array Edge} {g : Option (Nat × Bool)}
/-- Tokens that nobody reads. -/
abbrev hld (B : List Nat) : Fact := .tkn (.int .i64 0) (0 : Int) B
/-- A row with tokens is from here on read alone; what is taken out of it takes its tokens along. -/
theorem SH.tail {α : Type} [Rep α] {e : TypeId} {v : Value} {xs : List α} {B : List Nat} (h : SH A w0 w Γ) (i : Nat) (hi : Γ[i]? = some (.od e v xs B)) (k : Int) :
    ∃ ts : List (Tk α), dats ts = xs ∧ ts.length ≤ maxLen ∧ SH A w0 w (hld (tlB ts k) :: .rd v ts :: Γ.set i (.rd v xs)) := by
  have hli := (List.getElem?_eq_some_iff.1 hi).1
  obtain ⟨⟨cells, B0, ho1, _, _, _⟩, h3⟩ := h.get i hi
  obtain ⟨ts, e1, e2, e4, h1⟩ := h.od_down i hi
  have hlen : ts.length ≤ maxLen := by
    rw [← dats_length, e1]
    rcases ho1.2 with ⟨_, h0⟩ | ⟨_, cap, _, _, _, _, hc, hm, _, _⟩
    · omega
    · omega
  have h5 := (h.od_ow i hi).freeze i (get_set hli)
  have h6 := h1.freeze i (get_set hli)
  rw [List.set_set] at h5 h6
  have ho : ∀ {β : Type} [Rep β] (y : β), ∃ l1 l2, Γ.owns = l1 ++ v.ownBlock.toList ++ l2 ∧ Ctx.owns (Γ.set i (.rd v y)) = l1 ++ [] ++ l2 := fun {β} _ y => owns_set (f' := .rd v y) hi
  have hoo : Ctx.owns (Γ.set i (.rd v ts)) = Ctx.owns (Γ.set i (.rd v xs)) := by
    have a := owns_set_eq (Γ := Γ.set i (.rd v ts)) (f := .rd v ts) (f' := .rd v xs) (get_set hli) rfl
    rw [List.set_set] at a
    exact a.symm
  have hrd := h6.get i (get_set hli)
  have h7 : SH A w0 w (.rd v ts :: Γ.set i (.rd v xs)) := h5.cons_rd (by rw [← hoo]; exact hrd)
  have hsub : ∀ b ∈ tlB ts k, b ∈ B := fun b hb => e4 b ((tks_drop ts _).subset hb)
  have hBt : ∀ b ∈ B, b ∈ Γ.toks := fun c hc => List.mem_flatMap.2 ⟨_, List.mem_of_getElem? hi, hc⟩
  have hsubo : ∀ b ∈ Ctx.owns (Γ.set i (.rd v xs)), b ∈ Γ.owns := fun b hb => by
    obtain ⟨l1, l2, a, c⟩ := ho xs
    rw [c] at hb
    rw [a]
    simp only [List.append_nil, List.mem_append] at hb ⊢
    rcases hb with hb | hb
    · exact .inl (.inl hb)
    · exact .inr hb
  refine ⟨ts, e1, hlen, ?_⟩
  refine h7.consT (Grow.refl w []) (by simp [Fact.owns]) (by simp [Fact.owns]) ⟨⟨[], ⟨[.int .i64 0], rfl, rfl, rfl⟩, by simp, by simp⟩, fun b hb => ⟨(h3 b (hsub b hb)).1, ?_⟩⟩ ?_ (fun b hb => h.tge b (hBt b (hsub b hb)))
  · have h8 : Ctx.owns (hld (tlB ts k) :: .rd v ts :: Γ.set i (.rd v xs)) = Ctx.owns (Γ.set i (.rd v xs)) := by simp [Ctx.owns, Fact.owns]
    rw [h8]
    rintro (hk | hk)
    · exact (h3 b (hsub b hb)).2 (.inl hk)
    · exact (h3 b (hsub b hb)).2 (.inr (hsubo b hk))
  · show (tlB ts k ++ Ctx.toks (.rd v ts :: Γ.set i (.rd v xs))).Nodup
    have h9 : Ctx.toks (.rd v ts :: Γ.set i (.rd v xs)) = Ctx.toks (Γ.set i (.rd v xs)) := by simp [Ctx.toks, Fact.toks]
    rw [h9]
    refine ((toks_perm (f' := .rd v xs) hi).append_left _).nodup_iff.2 ?_
    have p4 := (toks_perm0 hi).nodup_iff.1 h.tnd
    simp only [Fact.toks, List.nil_append] at p4 ⊢
    rw [List.nodup_append] at p4 ⊢
    exact ⟨e2.sublist (tks_drop ts _), p4.2.1, fun a ha b hb e => p4.2.2 a (hsub a ha) b hb e⟩
end
end Go.Tc
namespace Go.Tc
open Go Go.RowKit

section
variable {A : Nat → Prop} {w0 w w' : World} {Γ Γ' Δ : Ctx} {B : List Nat}
theorem DL.split {α : Type} [Rep α] {w : World} : ∀ (xs : List α) (cs : List Value) (B : List Nat) (k : Nat) (y : α), DL w cs xs B → xs[k]? = some y →
    ∃ c1 c c2 B1 Bi B2, cs = c1 ++ (c ++ c2) ∧ B = B1 ++ (Bi ++ B2) ∧ c1.length = k * Rep.sz α ∧ DL w c1 (xs.take k) B1 ∧ Rep.dc w c y Bi ∧ DL w c2 (xs.drop (k + 1)) B2
  | [], _, _, k, y, _, hk => by simp at hk
  | x :: r, _, _, 0, y, ⟨c1, c2, B1, B2, e, eB, h1, h2⟩, hk => by
    simp at hk
    subst hk e eB
    exact ⟨[], c1, c2, [], B1, B2, rfl, rfl, by simp, ⟨rfl, rfl⟩, h1, h2⟩
  | x :: r, _, _, k + 1, y, ⟨c1, c2, B1, B2, e, eB, h1, h2⟩, hk => by
    subst e eB
    obtain ⟨d1, d, d2, C1, Ci, C2, e1, e2, e3, e4, e5, e6⟩ := DL.split r c2 B2 k y h2 (by simpa using hk)
    have hl := Rep.len (Rep.dcr (A := nowhere) h1 fun _ _ h => h)
    refine ⟨c1 ++ d1, d, d2, B1 ++ C1, Ci, C2, by rw [e1]; simp, by rw [e2]; simp, by rw [List.length_append, hl, e3, Nat.add_mul]; omega, ⟨c1, d1, B1, C1, rfl, rfl, h1, e4⟩, e5, e6⟩
theorem DL.join {α : Type} [Rep α] {w : World} : ∀ (xs ys : List α) (c d : List Value) (B C : List Nat), DL w c xs B → DL w d ys C → DL w (c ++ d) (xs ++ ys) (B ++ C)
  | [], ys, _, d, _, C, ⟨e1, e2⟩, h => by subst e1 e2; exact h
  | x :: r, ys, _, d, _, C, ⟨c1, c2, B1, B2, e, eB, h1, h2⟩, h => by
    subst e eB
    exact ⟨c1, c2 ++ d, B1, B2 ++ C, by simp, by simp, h1, DL.join r ys c2 d B2 C h2 h⟩
/-- A datum of two rows. -/
def Two {α β γ : Type} [Rep α] [Rep β] [Rep γ] (y : α) (a : List β) (c : List γ) : Prop :=
  ∀ w cs B, Rep.dc w cs y B ↔ ∃ v0 v1 B0 B1, cs = [v0, v1] ∧ B = B0 ++ B1 ∧ DS w v0 a B0 ∧ DS w v1 c B1
/-- The elements beside one. -/
def HR {α : Type} [Rep α] (o cap : Nat) (xs : List α) (k : Nat) (L1 L2 : List Value) (B1 B2 : List Nat) (w : World) : Prop :=
  ∃ p c1 c2 q, L1 = p ++ c1 ∧ L2 = c2 ++ q ∧ p.length = o ∧ DL w c1 (xs.take k) B1 ∧ DL w c2 (xs.drop (k + 1)) B2 ∧ xs.length ≤ cap ∧ cap ≤ maxLen
theorem HR.frame {α : Type} [Rep α] {o cap : Nat} {xs : List α} {k : Nat} {L1 L2 : List Value} {B1 B2 : List Nat} (h : HR o cap xs k L1 L2 B1 B2 w) (hf : ∀ b ∈ B1 ++ B2, w'.heap[b]? = w.heap[b]?) : HR o cap xs k L1 L2 B1 B2 w' := by
  obtain ⟨p, c1, c2, q, e1, e2, e3, h1, h2, h3, h4⟩ := h
  exact ⟨p, c1, c2, q, e1, e2, e3, DL.frame _ _ _ h1 fun b hb => hf b (by simp [hb]), DL.frame _ _ _ h2 fun b hb => hf b (by simp [hb]), h3, h4⟩
end
section
variable {R : Type} {P : Program} {n : Fr} {A : Nat → Prop} {w0 w w' : World} {Q : R → Exit → Act → World → Prop} {ρ ρ' : Env} {Γ Γ' : Ctx} {E : Option R} {B : List Nat}
variable {d : Option Nat} {ty : TypeId} {pos : String} {after : Array Edge} {g : Option (Nat × Bool)}
end
end Go.Tc
namespace Go.Tc
open Go Go.RowKit

section
variable {R : Type} {P : Program} {n nc : Fr} {A : Nat → Prop} {w0 w w' : World} {Q : R → Exit → Act → World → Prop} {ρ ρ' ρc : Env} {Γ Γ' : Ctx} {E : Option R}
variable {d : Option Nat} {ty : TypeId} {pos : String} {after : Array Edge} {g : Option (Nat × Bool)}

end
end Go.Tc
namespace Go.Tc
open Go Go.RowKit

/-- The byte at a place. -/
def bidx (s : ByteArray) (i : Int) : Option Int := if 0 ≤ i then (s[i.toNat]?).map fun b => (b.toNat : Int) else none
/-- A part of a text. -/
def bslc (s : ByteArray) (lo hi : Int) : Option ByteArray := if 0 ≤ lo ∧ lo ≤ hi ∧ hi ≤ s.size then some (s.extract lo.toNat hi.toNat) else none
section
variable {R : Type} {P : Program} {n : Fr} {A : Nat → Prop} {w0 w : World} {Q : R → Exit → Act → World → Prop} {ρ ρ' : Env} {Γ Γ' : Ctx} {E : Option R}
variable {d : Option Nat} {ty : TypeId} {pos : String} {after : Array Edge} {g : Option (Nat × Bool)}
theorem ex_index_str {x ix : Operand} {t : TypeId} {s : ByteArray} {k : IntKind} {j y : Int} (ht : P.underlying t = some .string) (hx : ev ρ x = some (.string s)) (hix : ev ρ ix = some (.int k j)) (hy : bidx s j = some y) :
    Ex P n A w0 ρ Γ ⟨d, .index t x ix, ty, pos, after, g⟩ (.int .u8 y) := by
  intro a w hs hh
  unfold bidx at hy
  split at hy
  · rename_i h0
    cases hb : s[j.toNat]? with
    | none => rw [hb] at hy; cases hy
    | some b =>
      rw [hb] at hy
      simp only [Option.map_some, Option.some.injEq] at hy
      subst hy
      simp [execOp, hs.eval hx, hs.eval hix, Instr.index, asIntOf, run_underlying ht, h0, hb]
  · cases hy
theorem ex_slice_str {x : Operand} {t : TypeId} {s r : ByteArray} {lo hi : Option Operand} {l h : Int} (ht : P.underlying t = some .string) (hx : ev ρ x = some (.string s)) (hlo : bound ρ lo 0 = some l) (hhi : bound ρ hi (s.size : Int) = some h) (hy : bslc s l h = some r) :
    Ex P n A w0 ρ Γ ⟨d, .slice t x lo hi none, ty, pos, after, g⟩ (.string r) := by
  intro a w hs hh
  unfold bslc at hy
  split at hy
  · rename_i hk
    obtain ⟨h0, h1, h2⟩ := hk
    rw [← Option.some.inj hy]
    have hb1 : 0 ≤ l ∧ l ≤ (h.toNat : Int) := ⟨h0, by omega⟩
    have hb2 : 0 ≤ h ∧ h ≤ (s.size : Int) := ⟨by omega, h2⟩
    have hb3 : 0 ≤ l ∧ l ≤ (s.size : Int) := ⟨h0, by omega⟩
    rcases bound_val hs hlo with ⟨e1, rfl⟩ | e1 <;> rcases bound_val hs hhi with ⟨e2, rfl⟩ | e2 <;>
      simp [execOp, hs.eval hx, e1, e2, Instr.sliceAt, Instr.slice, run_underlying ht, Instr.sliceBounds, Instr.sliceBound, asIntOf, hb1, hb2, hb3]
    intro hc
    exact absurd hc (by omega)
  · cases hy
end
end Go.Tc
namespace Go.Tc
open Go Go.RowKit

section
variable {R : Type} {P : Program} {n : Fr} {A : Nat → Prop} {w0 w w1 w' : World} {Q : R → Exit → Act → World → Prop} {ρ ρ' : Env} {Γ Γ' : Ctx} {E : Option R}
variable {d : Option Nat} {ty : TypeId} {pos : String} {after : Array Edge} {g : Option (Nat × Bool)}
end
section
variable {R : Type} {P : Program} {n : Fr} {A : Nat → Prop} {w0 w1 : World} {Q : R → Exit → Act → World → Prop} {ρ ρ' : Env} {Γ Γ' Γ1 : Ctx} {E : Option R} {ops : Array Oper} {O : List Nat} {fuel : Nat} {listed : Array Bool}
end
end Go.Tc
namespace Go.Tc
open Go Go.RowKit
section
variable {R : Type} {P : Program} {n : Fr} {A : Nat → Prop} {w0 w w1 w' : World} {Q : R → Exit → Act → World → Prop} {ρ ρ' : Env} {Γ Γ' : Ctx} {E : Option R}
variable {d : Option Nat} {ty : TypeId} {pos : String} {after : Array Edge} {g : Option (Nat × Bool)}
theorem ex_mkiface {x : Operand} {t e : TypeId} {v : Value} (ht : P.underlying t = some (.pointer e)) (hx : ev ρ x = some v) : Ex P n A w0 ρ Γ ⟨d, .makeInterface t x, ty, pos, after, g⟩ (.iface t v) := by
  intro a w hs hh
  simp [execOp, Instr.makeInterface, hs.eval hx, run_underlying ht]
theorem run_callm {a : Act} {d : Nat} {o : Operand} {f : FuncId} {t : TypeId} {m : String} {args : List Operand} {ats : Array TypeId} {v u : Value} {vs : List Value} (hs : Sat n ρ a)
    (ho : ev ρ o = some (.iface t v)) (hargs : evL ρ args = some vs) (hm : ∀ w, (callMethod (.iface t v) m vs.toArray).run P w = .ok (.enter f (u :: vs).toArray) w) :
    (execOp a.eval ⟨some d, .call ⟨.invoke o m, args.toArray, ats⟩, ty, pos, after, g⟩).run P w = .ok (.enter f (u :: vs).toArray) w := by
  simp [execOp, resolve, hs.eval ho, invoke, hs.evalL hargs, hm]
theorem JL_callmT {ops : Array Oper} {rest : List Oper} {d : Nat} {o : Operand} {f : FuncId} {t : TypeId} {m : String} {args : List Operand} {ats : Array TypeId} {v' u : Value} {vs : List Value} {G : Type} {v : G → Value} {Γ' : G → Ctx} {T : List Nat}
    (hw : Wants n ρ ops ⟨some d, .call ⟨.invoke o m, args.toArray, ats⟩, ty, pos, after, g⟩) (hd : Nat.blt d n.n = true)
    (ho : ev ρ o = some (.iface t v')) (hargs : evL ρ args = some vs) (hm : ∀ w, (callMethod (.iface t v') m vs.toArray).run P w = .ok (.enter f (u :: vs).toArray) w) (hC : CaT P A w0 Γ f (u :: vs) v Γ' T)
    (h : ∀ x, JL P n A w0 ops rest Q ((d, v x) :: ρ) (Γ' x) E) : JL P n A w0 ops (⟨some d, .call ⟨.invoke o m, args.toArray, ats⟩, ty, pos, after, g⟩ :: rest) Q ρ Γ E := by
  intro r hr a w hs hh
  refine wpList_step fun K hK => ?_
  rw [hw a hs]
  simp only [if_true]
  unfold Oper.wp
  rw [run_callm hs ho hargs hm, Oper.upon_enter]
  refine (hC w hh).mono ?_
  rintro e w' ⟨x, rfl, hh', _⟩
  exact hK _ _ (h x r hr _ _ (hs.put (by simpa [Nat.blt_eq] using hd)) hh')
theorem JL_inlinem {ops : Array Oper} {rest : List Oper} {d : Nat} {o : Operand} {f : FuncId} {t : TypeId} {m : String} {fn : Func} {body : Code} {n' : Nat} {args : List Operand} {ats : Array TypeId} {v u : Value} {vs : List Value}
    (hw : Wants n ρ ops ⟨some d, .call ⟨.invoke o m, args.toArray, ats⟩, ty, pos, after, g⟩) (hd : Nat.blt d n.n = true)
    (ho : ev ρ o = some (.iface t v)) (hargs : evL ρ args = some vs) (hm : ∀ w, (callMethod (.iface t v) m vs.toArray).run P w = .ok (.enter f (u :: vs).toArray) w)
    (hfn : P.funcs[f]? = some fn) (hb : fn.body = some body) (hn : fn.ntmps = n') (hl : Nat.ble (u :: vs).length n' = true) (hρ : enum 0 (u :: vs) = ρ')
    (h : ∀ K : R → Value → World → Prop, Behind P n A w0 ops rest Q d ρ K → J P ⟨n', [], none⟩ A w0 body (QInl P fn K) ρ' Γ E) : JL P n A w0 ops (⟨some d, .call ⟨.invoke o m, args.toArray, ats⟩, ty, pos, after, g⟩ :: rest) Q ρ Γ E := by
  intro r hr a w hs hh
  refine wpList_step fun K hK => ?_
  rw [hw a hs]
  simp only [if_true]
  unfold Oper.wp
  rw [run_callm hs ho hargs hm, Oper.upon_enter]
  refine (calls_wp hfn hb (R := fun e w' => ∃ u, e = .returned u ∧ wpList P ops (noP (Q r)) rest (a.put (some d) u) w') ?_).mono ?_
  · have hJ := h (fun r u w' => wpList P ops (noP (Q r)) rest (a.put (some d) u) w') (fun u Γ' E' hJL r hE w hw' => hJL r hE _ w (hs.put (by simpa [Nat.blt_eq] using hd)) hw')
    refine hJ r hr _ w ⟨?_, rfl, ?_⟩ hh
    · simp only [Nat.ble_eq] at hl
      simp [hn]; simp at hl; omega
    · intro t u' ht
      rw [← hρ] at ht
      obtain ⟨_, h2⟩ := enum_get (u :: vs) 0 t u' ht
      have h2' : (u :: vs)[t]? = some u' := by simpa using h2
      have hlt : t < (u :: vs).length := (List.getElem?_eq_some_iff.1 h2').1
      simp only [Nat.ble_eq] at hl
      refine ⟨?_, show t < n' by omega⟩
      have hlt' : t < ((u :: vs).toArray).size := by simpa using hlt
      rw [Array.getD_eq_getD_getElem?, Array.getElem?_append_left hlt']
      simp only [List.getElem?_toArray, h2', Option.getD_some]
  · rintro e w' ⟨u, rfl, hu⟩
    exact hK _ _ hu
end
end Go.Tc
