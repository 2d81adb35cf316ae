/-
  Rows as cells alone; functions that turn an own row round. No condition.
  Functions that store through what they are handed: boxes and rows of the caller's go in, and come back with what they hold then. No condition.
  Arrays of numbers inside boxes: parts of them copied, read and written at an index. No condition.
  Ranges over a map, in whatever order its entries come. No condition.
  Tokens that go over one by one: a row with tokens is read from its begin on, and what is taken out takes its tokens along. No condition.
  Own rows in full, their inner rows too; an element of such a row, opened and closed; tokens that become own rows again. No condition.
  Ranges over functions: the function that is ranged over and the rounds are walked in place. No condition.
  Bytes and parts of texts. No condition.
  Functions that strike elements out of an own row by a function value (slices.DeleteFunc). No condition.
  Interface values of known dynamic types: made, and their methods called. No condition.
  What strings.Builder does with memory: a pointer in a box held against itself, turned to unsafe.Pointer and back; the bytes of an own row as a text. No condition.
  Decimal numerals by a contract of the kit's: what the table of powers holds goes along from world to world. No condition.
  strings.Split and strings.Cut by contracts of the kit's; a variable of the library that holds some number. No condition.
  strings.ReplaceAll and strconv.ParseInt by contracts of the kit's; an error is none or not. No condition.
-/
import Derived.Test.YtnpkepfmicgelaaDoorMore
import Derived.Maps.RangeRun
import Derived.Lib.Builder
import Derived.Lib.UnsafeStr
import Derived.Lib.Join
import Derived.Lib.AppendIntMem
import Derived.Lib.SplitLaws
import Derived.Lib.IndexMore
import Derived.Lib.ParseIntB
import Derived.Lib.Replace
import Derived.Lib.AtoiErrMem
import Derived.WideLaws
namespace Go.Tc
open Go Go.RowKit

/-- A cell's value, as a datum. -/
structure Vc where
  v : Value
  one : v.oneCell' = true
instance : Rep Vc where
  sz := 1
  agg := false
  rdc _ _ cs x := cs = [x.v]
  len h := by subst h; rfl
  one := by
    intro A w cs x h c hc
    subst h
    simp at hc
    subst hc
    exact x.one
  pos := by decide
  single _ := rfl
  frame h _ := h
  dc _ cs x B := cs = [x.v] ∧ B = []
  dcf h _ := h
  dcr h _ := h.1
  dlt h b hb := by simp [h.2] at hb
  flat := true
  flt _ h := ⟨h, rfl⟩
theorem Rd.vc {A : Nat → Prop} {w : World} {v : Value} {x : Vc} (h : Rd A w v x) : v = x.v := by
  obtain ⟨cs, rfl, h⟩ := h
  simp only [Rep.rdc] at h
  subst h; rfl
theorem Rd.mk_vc (A : Nat → Prop) (w : World) (x : Vc) : Rd A w x.v x := ⟨_, rfl, rfl⟩
theorem cv_vc {x : Vc} : CV x.v [x.v] := by
  have := x.one
  refine ⟨?_, by simpa using this⟩
  cases hv : x.v <;> rw [hv] at this <;> first | rfl | simp [Value.oneCell'] at this
theorem vcs_of : ∀ (cells : List Value), (∀ c ∈ cells, c.oneCell' = true) → ∃ vs : List Vc, vs.map Vc.v = cells
  | [], _ => ⟨[], rfl⟩
  | c :: r, h => by
    obtain ⟨vs, e⟩ := vcs_of r fun d hd => h d (by simp [hd])
    exact ⟨⟨c, h c (by simp)⟩ :: vs, by simp [e]⟩
theorem rdl_vc {A : Nat → Prop} {w : World} : ∀ (vs : List Vc), RdL A w (vs.map Vc.v) vs
  | [] => rfl
  | x :: r => ⟨[x.v], r.map Vc.v, rfl, rfl, rdl_vc r⟩
theorem rdl_vc_eq {A : Nat → Prop} {w : World} : ∀ (vs : List Vc) (cs : List Value), RdL A w cs vs → cs = vs.map Vc.v
  | [], _, h => h
  | x :: r, _, ⟨c1, c2, e, h1, h2⟩ => by
    have h1 : c1 = [x.v] := h1
    rw [e, h1, rdl_vc_eq r c2 h2]
    rfl
theorem RdL.rev {α : Type} [Rep α] {A : Nat → Prop} {w : World} (hs : Rep.sz α = 1) : ∀ (xs : List α) (cs : List Value), RdL A w cs xs → RdL A w cs.reverse xs.reverse
  | [], _, h => by simp [RdL] at h; simp [RdL, h]
  | x :: r, _, ⟨c1, c2, e, h1, h2⟩ => by
    have hl := Rep.len h1
    rw [hs] at hl
    match c1, hl with
    | [c], _ =>
      subst e
      rw [List.singleton_append, List.reverse_cons, List.reverse_cons]
      exact RdL.append _ _ _ _ (RdL.rev hs r c2 h2) ⟨[c], [], rfl, h1, rfl⟩
def rev {α : Type} (xs : List α) : Option (List α) := if xs.length ≤ 1099511627776 then some xs.reverse else none
/-- What a function that turns an own row round does. -/
def RevCon (P : Program) (f : FuncId) (e : TypeId) : Prop :=
  ∀ (w : World) (v : Value) (xs ys : List Vc), Ow (fun k => k ∈ v.ownBlock.toList) w e v xs → (∀ b ∈ v.ownBlock.toList, b < w.heap.size) → rev xs = some ys →
    Calls P f #[v] w fun r w' => r = .returned (.tuple #[]) ∧ Ow (fun k => k ∈ v.ownBlock.toList) w' e v ys ∧ Grow w w' v.ownBlock.toList
theorem rev_start {α : Type} [Rep α] {w : World} {e : TypeId} {v : Value} {xs : List α} (h : Ow (fun k => k ∈ v.ownBlock.toList) w e v xs) (hb : ∀ b ∈ v.ownBlock.toList, b < w.heap.size) : SH nowhere (bare w) w [.ow e v xs, rest w v.ownBlock.toList] := by
  have ho : Ctx.owns [Fact.ow e v xs, rest w v.ownBlock.toList] = v.ownBlock.toList := by simp [Ctx.owns, Fact.owns]
  refine ⟨⟨rfl, rfl, rfl, by simp [bare], fun k hk => by simp [bare] at hk⟩, fun k hk => hk.elim, ?_, fun b hb' => ⟨by simp [bare], hb b (by rw [ho] at hb'; exact hb')⟩, by simp [Ctx.toks, Fact.toks], by simp [Ctx.toks, Fact.toks], fun f hf => ?_⟩
  · rw [ho]
    cases v.ownBlock <;> simp
  · rw [ho]
    simp only [List.mem_cons, List.not_mem_nil, or_false] at hf
    rcases hf with rfl | rfl
    · obtain ⟨cells, h1, h2⟩ := h
      refine ⟨cells, h1, RdL.frame (fun k _ hk => ⟨rfl, ?_⟩) _ _ h2⟩
      rintro (hk' | hk')
      · exact hk'
      · exact hk hk'
    · refine ⟨Nat.le_refl _, fun k hk => ⟨?_, hk.1, rfl⟩⟩
      rintro (hk' | hk')
      · exact hk'
      · exact hk.2 hk'
theorem rev_end {α : Type} [Rep α] {w w' : World} {e : TypeId} {v : Value} {xs : List α} (h : SH nowhere (bare w) w' [.ow e v xs, rest w v.ownBlock.toList]) : Ow (fun k => k ∈ v.ownBlock.toList) w' e v xs ∧ Grow w w' v.ownBlock.toList := by
  have ho : Ctx.owns [Fact.ow e v xs, rest w v.ownBlock.toList] = v.ownBlock.toList := by simp [Ctx.owns, Fact.owns]
  obtain ⟨cells, h1, h2⟩ := h.get 0 rfl
  have h3 := h.get 1 rfl
  rw [ho] at h2
  refine ⟨⟨cells, h1, RdL.frame (fun k _ hk => ⟨rfl, fun hk' => hk (.inr hk')⟩) _ _ h2⟩, h.below.os, h.below.tape, h.below.output, h3.1, fun k hk hb => (h3.2 k ⟨hk, hb⟩).2.2⟩

section
variable {R : Type} {P : Program} {n : Fr} {A : Nat → Prop} {w0 w w' : World} {Q : R → Exit → Act → World → Prop} {ρ ρ' : Env} {Γ Γ' : Ctx} {E : Option R}
variable {d : Option Nat} {ty : TypeId} {pos : String} {after : Array Edge} {g : Option (Nat × Bool)}
theorem ex_load_ow_vc {x : Operand} {t e : TypeId} {b cap len : Nat} {xs : List Vc} {j : Int} {y : Vc} (i : Nat) (ht : tinf P t = some (1, false)) (hx : ev ρ x = some (.pointer (some ⟨b, j.toNat * Rep.sz Vc, none⟩)))
    (hi : Γ[i]? = some (.ow e (.slice (some ⟨b, 0, none⟩) len cap) xs)) (hy : idx xs j = some y) :
    Ex P n A w0 ρ Γ ⟨d, .load t x, ty, pos, after, g⟩ y.v := by
  intro a w hs hh
  obtain ⟨v, w', h1, h2, _⟩ := st_load_ow (α := Vc) (d := d) (ty := ty) (pos := pos) (after := after) (g := g) i ht hx hi hy a w hs hh
  have h3 := h2.get 0 rfl
  have := Rd.vc h3
  subst this
  have hw : w' = w := by
    have h4 := h1
    obtain ⟨h0, hlt, hy2⟩ := idx_eq hy
    obtain ⟨cells, ⟨hl0, hown⟩, hr⟩ := hh.get i hi
    rcases hown with ⟨h, _⟩ | ⟨gg, cap', cur, hv, _, hg, hnc, hcm, hcs, htake⟩
    · simp at h
    simp at hv
    obtain ⟨rfl, rfl, rfl⟩ := hv
    obtain ⟨c, hc1, hc2, hc3⟩ := RdL.get xs cells j.toNat y hr hy2
    simp only [Rep.rdc] at hc2
    subst hc2
    have hc : w.cell? ⟨b, j.toNat * Rep.sz Vc, none⟩ = some y.v := by
      have := hc3 0 _ rfl
      rw [← htake, List.getElem?_take] at this
      split at this
      · simpa [World.cell?, hg] using this
      · simp at this
    simp [execOp, hs.eval hx, Instr.loadAt, Instr.sureAddr, loadVar, tinf_agg ht, run_load, hc] at h4
    exact h4.symm
  rw [hw] at h1
  exact h1
theorem N_ret0 {fn : Func} {G : Type} {v : R → G → Value} {fs : R → G → Ctx} {r : R} {e : Exit} (he : e = .ret ∨ e = .normal) (hres : fn.results = #[])
    (h : ∀ w, SH A w0 w Γ → ∃ x, .tuple #[] = v r x ∧ SH A w0 w (fs r x)) (hds : n.ds = [] := by rfl) : N n A w0 (QBody P fn (Post A w0 v fs)) e ρ Γ (some r) := by
  rintro r' hr a w hs hh
  cases hr
  have key : a.defers = [] ∧ ∃ u, (results fn a.tmps).run P w = .ok u w ∧ Post A w0 v fs r (.returned u) w := by
    refine ⟨hs.defers.trans hds, .tuple #[], ?_, ?_⟩
    · rw [results_rv, hres]
      simp
    · obtain ⟨x, e, hx⟩ := h w hh
      exact ⟨x, by rw [e], hx⟩
  rcases he with rfl | rfl <;> exact leaves0 key.1 key.2
theorem RevCon.ow {f : FuncId} {e : TypeId} (hM : RevCon P f e) {α : Type} [Rep α] (hs : Rep.sz α = 1) {A : Nat → Prop} {w : World} {v : Value} {xs ys : List α} (h : Ow A w e v xs) (hA : ∀ b ∈ v.ownBlock.toList, A b) (hb : ∀ b ∈ v.ownBlock.toList, b < w.heap.size) (hr : rev xs = some ys) :
    Calls P f #[v] w fun r w' => r = .returned (.tuple #[]) ∧ Ow A w' e v ys ∧ Grow w w' v.ownBlock.toList := by
  obtain ⟨cells, h1, h2⟩ := h
  obtain ⟨vs, hvs⟩ := vcs_of cells (RdL.one _ _ h2)
  have hl := RdL.length _ _ h2
  rw [hs, Nat.mul_one] at hl
  have hvl : vs.length = xs.length := by rw [← hl, ← hvs, List.length_map]
  unfold rev at hr
  split at hr
  · rename_i hle
    have hO : Ow (fun k => k ∈ v.ownBlock.toList) w e v vs := ⟨cells, by rw [hvl]; rw [hs] at h1; exact h1, by rw [← hvs]; exact rdl_vc vs⟩
    refine (hM w v vs vs.reverse hO hb (by unfold rev; rw [hvl, if_pos hle])).mono ?_
    rintro r w' ⟨rfl, ⟨cells', h3, h4⟩, hg⟩
    refine ⟨rfl, ?_, hg⟩
    have e1 := rdl_vc_eq _ _ h4
    rw [List.map_reverse, hvs] at e1
    subst e1
    rw [← Option.some.inj hr]
    refine ⟨cells.reverse, ?_, RdL.frame (fun k hk hn => ⟨hg.block k hk (fun hm => hn (hA k hm)), hn⟩) _ _ (RdL.rev hs _ _ h2)⟩
    rw [List.length_reverse, ← hvl, hs]
    rw [List.length_reverse] at h3
    exact h3
  · simp at hr
theorem JL_rev {α : Type} [Rep α] {ops : Array Oper} {rest : List Oper} {d : Nat} {f : FuncId} {args : List Operand} {ats : Array TypeId} {v : Value} {e : TypeId} {xs ys : List α} (i : Nat) (hM : RevCon P f e) (hsz : Rep.sz α = 1)
    (hw : Wants n ρ ops ⟨some d, .call ⟨.value (.func f), args.toArray, ats⟩, ty, pos, after, g⟩) (hd : Nat.blt d n.n = true)
    (hf : ∀ args w, (callFunc f args).run P w = .ok (.enter f args) w) (hargs : evL ρ args = some [v]) (hi : Γ[i]? = some (.ow e v xs)) (hr' : rev xs = some ys)
    (h : JL P n A w0 ops rest Q ((d, .tuple #[]) :: ρ) (Γ.set i (.ow e v ys)) E) : JL P n A w0 ops (⟨some d, .call ⟨.value (.func f), args.toArray, ats⟩, ty, pos, after, g⟩ :: rest) Q ρ Γ E := by
  intro r hr a w hs hh
  refine wpList_step fun K hK => ?_
  rw [hw a hs]
  simp only [if_true]
  unfold Oper.wp
  rw [run_mark hs hf hargs, Oper.upon_enter]
  have hin : ∀ b ∈ v.ownBlock.toList, b ∈ Γ.owns := fun b hb => List.mem_flatMap.2 ⟨_, List.mem_of_getElem? hi, hb⟩
  refine (hM.ow hsz (hh.get i hi) (fun b hb => .inr (hin b hb)) (fun b hb => (hh.ge b (hin b hb)).2) hr').mono ?_
  rintro e' w' ⟨rfl, ho, hg⟩
  refine hK _ _ (h r hr _ _ (hs.put (by simpa [Nat.blt_eq] using hd)) ?_)
  refine hh.set hi hg (by simp only [Fact.owns]; cases v.ownBlock <;> simp) (fun b hb => ⟨.inl hb, Nat.lt_of_lt_of_le (hh.ge b (hin b hb)).2 hg.size⟩) ?_
  have e2 : Ctx.owns (Γ.set i (.ow e v ys)) = Γ.owns := owns_set_eq hi rfl
  rw [e2]
  exact ho
theorem JL_rev_od {α : Type} [Rep α] {ops : Array Oper} {rest : List Oper} {d : Nat} {f : FuncId} {args : List Operand} {ats : Array TypeId} {v : Value} {e : TypeId} {xs ys : List α} {B : List Nat} (i : Nat) (hM : RevCon P f e) (hsz : Rep.sz α = 1)
    (hw : Wants n ρ ops ⟨some d, .call ⟨.value (.func f), args.toArray, ats⟩, ty, pos, after, g⟩) (hd : Nat.blt d n.n = true)
    (hf : ∀ args w, (callFunc f args).run P w = .ok (.enter f args) w) (hargs : evL ρ args = some [v]) (hi : Γ[i]? = some (.od e v xs B)) (hr' : rev xs = some ys)
    (h : JL P n A w0 ops rest Q ((d, .tuple #[]) :: ρ) (Γ.set i (.od e v ys B)) E) : JL P n A w0 ops (⟨some d, .call ⟨.value (.func f), args.toArray, ats⟩, ty, pos, after, g⟩ :: rest) Q ρ Γ E := by
  intro r hr a w hs hh
  refine wpList_step fun K hK => ?_
  rw [hw a hs]
  simp only [if_true]
  unfold Oper.wp
  rw [run_mark hs hf hargs, Oper.upon_enter]
  have hli := (List.getElem?_eq_some_iff.1 hi).1
  have hin : ∀ b ∈ v.ownBlock.toList, b ∈ Γ.owns := fun b hb => List.mem_flatMap.2 ⟨_, List.mem_of_getElem? hi, hb⟩
  have hBt : ∀ c ∈ B, c ∈ Γ.toks := fun c hc => List.mem_flatMap.2 ⟨_, List.mem_of_getElem? hi, hc⟩
  obtain ⟨ts, e1, e2, e3, h1⟩ := hh.od_down i hi
  have hoi : Ctx.owns (Γ.set i (.ow e v ts)) = Γ.owns := owns_set_eq hi rfl
  have hrt : rev ts = some ts.reverse := by
    unfold rev at hr' ⊢
    rw [← e1, dats_length] at hr'
    split at hr'
    · rename_i hle
      rw [if_pos hle]
    · simp at hr'
  have hys : ys = dats ts.reverse := by
    unfold rev at hr'
    split at hr'
    · rw [← Option.some.inj hr', ← e1]
      simp [dats]
    · simp at hr'
  have hget := h1.get i (get_set hli)
  rw [hoi] at hget
  refine (hM.ow (α := Tk α) hsz hget (fun b hb => .inr (hin b hb)) (fun b hb => (hh.ge b (hin b hb)).2) hrt).mono ?_
  rintro e' w' ⟨rfl, ho, hg⟩
  refine hK _ _ (h r hr _ _ (hs.put (by simpa [Nat.blt_eq] using hd)) ?_)
  have h2 : SH A w0 w' ((Γ.set i (.ow e v ts)).set i (.ow e v ts.reverse)) := by
    refine h1.set (get_set hli) hg (by simp only [Fact.owns]; cases v.ownBlock <;> simp) (fun b hb => ⟨.inl hb, Nat.lt_of_lt_of_le (hh.ge b (hin b hb)).2 hg.size⟩) ?_
    have e2 : Ctx.owns ((Γ.set i (.ow e v ts)).set i (.ow e v ts.reverse)) = Γ.owns := by rw [List.set_set]; exact owns_set_eq hi rfl
    rw [e2]
    exact ho
  rw [List.set_set] at h2
  have hperm : (tks ts.reverse).Perm (tks ts) := by
    unfold tks
    exact (List.reverse_perm ts).flatMap_right _
  have hoi2 : Ctx.owns (Γ.set i (.ow e v ts.reverse)) = Γ.owns := owns_set_eq hi rfl
  have h3 := h2.od_up (B := B) i (get_set hli) (hperm.nodup_iff.2 e2) (fun b hb => e3 b (hperm.mem_iff.1 hb)) (fun b hb => ⟨hh.tge b (hBt b hb), Nat.lt_of_lt_of_le (hh.tlt b (hBt b hb)).1 hg.size, by rw [hoi2]; exact (hh.tlt b (hBt b hb)).2⟩) ?_
  · rw [List.set_set] at h3
    rw [hys]
    exact h3
  · have p1 := toks_perm0 hi
    have p2 := toks_perm (f' := .ow e v ts.reverse) hi
    simp only [Fact.toks, List.nil_append] at p1 p2
    refine (p2.append_left B).nodup_iff.2 ?_
    exact p1.nodup_iff.1 hh.tnd
end
end Go.Tc
namespace Go.Tc
open Go Go.RowKit

def restL (w : World) (B : List Nat) : List Nat := (List.range w.heap.size).filter (fun k => !(B.contains k))
theorem mem_restL {w : World} {B : List Nat} {k : Nat} : k ∈ restL w B ↔ k < w.heap.size ∧ k ∉ B := by
  simp [restL]
/-- All that the callee is not handed: no token of its own lies there. -/
abbrev outs (w : World) (B : List Nat) : Fact := .tkn (.int .i64 0) (0 : Int) (restL w B)

/-- Facts that hang on no rows but their own and those of their tokens. -/
def Fact.loose : Fact → Bool
  | @Fact.ow α _ _ _ _ => Rep.flat α
  | @Fact.od _ _ _ _ _ _ => true
  | @Fact.tkn _ _ _ _ _ => true
  | .bx _ _ _ => true
  | .pr _ => true
  | .inv _ _ => true
  | _ => false
theorem Fact.loose_holds {A A' : Nat → Prop} {B B' : Nat} {w : World} {f : Fact} (hl : f.loose = true) (h : f.holds A B w) (ht : ∀ b ∈ f.toks, ¬ A' b) : f.holds A' B' w := by
  cases f with
  | ow e v xs =>
    obtain ⟨cells, h1, h2⟩ := h
    exact ⟨cells, h1, (DL.flat hl _ _ h2).rd _ _ _ (by simp)⟩
  | od e v xs Bs =>
    exact ⟨h.1, fun b hb => ⟨(h.2 b hb).1, ht b hb⟩⟩
  | tkn v x Bs =>
    exact ⟨h.1, fun b hb => ⟨(h.2 b hb).1, ht b hb⟩⟩
  | bx b t cs => exact h
  | pr p => exact h
  | rd v x => simp [Fact.loose] at hl
  | pt v x => simp [Fact.loose] at hl
  | pa v x => simp [Fact.loose] at hl
  | inv B I => exact h
  | fz w1 C => simp [Fact.loose] at hl

/-- The callee's begin: what it is handed, and that all else stands. -/
theorem ptr_start {w : World} {Γin : Ctx} (hn : Γin.owns.Nodup) (hb : ∀ b ∈ Γin.owns, b < w.heap.size) (ht : Γin.toks = []) (hl : Γin.all Fact.loose = true) {A : Nat → Prop} {B : Nat} (hh : ∀ f ∈ Γin, f.holds A B w) :
    SH nowhere (bare w) w (Γin ++ [outs w Γin.owns, rest w Γin.owns]) := by
  have ho : Ctx.owns (Γin ++ [outs w Γin.owns, rest w Γin.owns]) = Γin.owns := by simp [Ctx.owns, Fact.owns]
  have hto : Ctx.toks (Γin ++ [outs w Γin.owns, rest w Γin.owns]) = restL w Γin.owns := by
    have : Ctx.toks (Γin ++ [outs w Γin.owns, rest w Γin.owns]) = Γin.toks ++ restL w Γin.owns := by simp [Ctx.toks, Fact.toks]
    rw [this, ht, List.nil_append]
  refine ⟨⟨rfl, rfl, rfl, by simp [bare], fun k hk => by simp [bare] at hk⟩, fun k hk => hk.elim, by rw [ho]; exact hn, fun b h => ⟨by simp [bare], ?_⟩, ?_, fun b _ => by simp [bare], fun f hf => ?_⟩
  · rw [ho] at h
    exact hb b h
  · rw [hto]
    exact List.nodup_range.filter _
  · rw [ho]
    rcases List.mem_append.1 hf with hf | hf
    · refine Fact.loose_holds (List.all_eq_true.1 hl f hf) (hh f hf) (fun b hbt => ?_)
      have : b ∈ Γin.toks := List.mem_flatMap.2 ⟨f, hf, hbt⟩
      rw [ht] at this
      simp at this
    · simp only [List.mem_cons, List.not_mem_nil, or_false] at hf
      rcases hf with rfl | rfl
      · refine ⟨⟨[], ⟨[.int .i64 0], rfl, rfl, rfl⟩, by simp, by simp⟩, fun b hbr => ⟨(mem_restL.1 hbr).1, ?_⟩⟩
        rintro (hk | hk)
        · exact hk
        · exact (mem_restL.1 hbr).2 hk
      · refine ⟨Nat.le_refl _, fun k hk => ⟨?_, hk.1, rfl⟩⟩
        rintro (hk' | hk')
        · exact hk'.elim
        · exact hk.2 hk'

def PHanded (w : World) (Γin : Ctx) : Prop := Γin.owns.Nodup ∧ (∀ b ∈ Γin.owns, b < w.heap.size) ∧ Γin.toks = [] ∧ Γin.all Fact.loose = true ∧ ∀ f ∈ Γin, f.holds (fun _ => False) 0 w
theorem SH.begin {w : World} {Γin : Ctx} {B : List Nat} (hB : Γin.owns = B) (h : PHanded w Γin) : SH nowhere (bare w) w (Γin ++ [outs w B, rest w B]) := by
  subst hB
  exact ptr_start h.1 h.2.1 h.2.2.1 h.2.2.2.1 h.2.2.2.2
theorem SH.cons_apart {α : Type} [Rep α] {w0 w : World} {Γ : Ctx} {B : List Nat} {v : Value} {x : α} (h : SH nowhere w0 w Γ) (hB : Γ.owns = B) (hr : Rd (fun k => k ∈ B) w v x) : SH nowhere w0 w (.rd v x :: Γ) :=
  h.cons_rd (by
    rw [hB]
    exact hr.weak fun k hk => hk.elim (fun h => h.elim) id)

/-- What a function does that is handed boxes and rows: they, or what has come in their place, are handed back in fs. -/
def PtrCon (P : Program) (f : FuncId) (vs : List Value) (w : World) (B : List Nat) {G : Type} (v : G → Value) (fs : G → Ctx) : Prop :=
  Calls P f vs.toArray w fun e w' => ∃ x, e = .returned (v x) ∧ SH nowhere (bare w) w' (fs x ++ [outs w B, rest w B])

section
variable {R : Type} {P : Program} {n : Fr} {A : Nat → Prop} {w0 w w' : World} {Q : R → Exit → Act → World → Prop} {ρ ρ' : Env} {Γ Γ' Δ : Ctx} {E : Option R} {B : List Nat}
variable {d : Option Nat} {ty : TypeId} {pos : String} {after : Array Edge} {g : Option (Nat × Bool)}

theorem ptr_back {A' : Nat → Prop} {w1 : World} (k : SH A' w1 w' (Δ ++ [outs w B, rest w B])) (hw : w1 = bare w) (hA' : A' = nowhere) :
    Grow w w' B ∧ (∀ b ∈ Δ.owns, b ∈ B ∨ w.heap.size ≤ b) ∧ (∀ b ∈ Δ.toks, b ∈ B ∨ w.heap.size ≤ b) ∧ Δ.owns.Nodup ∧ Δ.toks.Nodup ∧ (∀ b ∈ Δ.owns, b < w'.heap.size) ∧ ∀ b ∈ Δ.toks, b < w'.heap.size ∧ b ∉ Δ.owns := by
  subst hw hA'
  have ho : Ctx.owns (Δ ++ [outs w B, rest w B]) = Δ.owns := by simp [Ctx.owns, Fact.owns]
  have hto : Ctx.toks (Δ ++ [outs w B, rest w B]) = Δ.toks ++ restL w B := by simp [Ctx.toks, Fact.toks]
  have h1 := k.get Δ.length (f := outs w B) (by simp)
  have h2 := k.get (Δ.length + 1) (f := rest w B) (by simp)
  rw [ho] at h1 h2
  have htn := k.tnd
  rw [hto, List.nodup_append] at htn
  refine ⟨⟨k.below.os, k.below.tape, k.below.output, h2.1, fun j hj hb => (h2.2 j ⟨hj, hb⟩).2.2⟩, fun b hb => ?_, fun b hb => ?_, by have := k.nd; rw [ho] at this; exact this, htn.1, fun b hb => (k.ge b (by rw [ho]; exact hb)).2, fun b hb => ?_⟩
  · refine Classical.byContradiction fun hn => ?_
    exact (h2.2 b ⟨by omega, fun h => hn (.inl h)⟩).1 (.inr hb)
  · refine Classical.byContradiction fun hn => ?_
    exact htn.2.2 b hb b (mem_restL.2 ⟨by omega, fun h => hn (.inl h)⟩) rfl
  · have := k.tlt b (by rw [hto]; simp [hb])
    rw [ho] at this
    exact this
/-- What the callee hands back, joined to what the caller has kept. -/
theorem SH.ptr_join (h : SH A w0 w Γ) (is js : List Nat) (hn : ndup (js ++ is) = true) (hB : (Tc.sel is Γ).owns = B) (k : SH nowhere (bare w) w' (Δ ++ [outs w B, rest w B])) (hl : Δ.all Fact.loose = true) :
    SH A w0 w' (Δ ++ Tc.sel js Γ) ∧ Grow w w' B ∧ OwnNew Γ (Δ ++ Tc.sel js Γ) w := by
  obtain ⟨hg, hon, htn, hnd, htd, hlt, htl⟩ := ptr_back k rfl rfl
  have hp := h.persist js is hn hB hg
  have hBo : ∀ b ∈ B, b ∈ Γ.owns := fun b hb => by
    rw [← hB] at hb
    obtain ⟨i, _, f, hf, hbf⟩ := sel_owns is Γ b hb
    exact List.mem_flatMap.2 ⟨f, List.mem_of_getElem? hf, hbf⟩
  have hso : ∀ b ∈ (Tc.sel js Γ).owns, b ∈ Γ.owns := fun b hb => by
    obtain ⟨m, _, f, hf, hbf⟩ := sel_owns js Γ b hb
    exact List.mem_flatMap.2 ⟨f, List.mem_of_getElem? hf, hbf⟩
  have hne : ∀ b ∈ (Tc.sel js Γ).owns, b ∉ B := fun b hb hbB => by
    rw [← hB] at hbB
    obtain ⟨i, hi, f, hf, hbf⟩ := sel_owns js Γ b hb
    obtain ⟨j, hj, f', hf', hbf'⟩ := sel_owns is Γ b hbB
    exact nodup_two h.nd hf hf' ((ndup_append js is hn).2 i hi j hj) hbf hbf'
  have ho : Ctx.owns (Δ ++ Tc.sel js Γ) = Δ.owns ++ (Tc.sel js Γ).owns := by simp [Ctx.owns]
  have hto : Ctx.toks (Δ ++ Tc.sel js Γ) = Δ.toks ++ (Tc.sel js Γ).toks := by simp [Ctx.toks]
  have hge : ∀ b, b ∈ B ∨ w.heap.size ≤ b → w0.heap.size ≤ b := fun b hb => by
    rcases hb with hb | hb
    · exact (h.ge b (hBo b hb)).1
    · exact Nat.le_trans h.lt hb
  have hst : ∀ b ∈ (Tc.sel js Γ).toks, b ∈ Γ.toks := fun b hb => sel_toks js Γ b hb
  refine ⟨⟨hp.below, h.av, ?_, ?_, ?_, ?_, ?_⟩, hg, ?_⟩
  · rw [ho, List.nodup_append]
    refine ⟨hnd, hp.nd, fun a ha b hb e => ?_⟩
    subst e
    rcases hon a ha with h1 | h1
    · exact hne a hb h1
    · have := (h.ge a (hso a hb)).2; omega
  · intro b hb
    rw [ho] at hb
    rcases List.mem_append.1 hb with hb | hb
    · exact ⟨hge b (hon b hb), hlt b hb⟩
    · exact hp.ge b hb
  · rw [hto, List.nodup_append]
    refine ⟨htd, hp.tnd, fun a ha b hb e => ?_⟩
    subst e
    rcases htn a ha with h1 | h1
    · exact (h.tlt a (hst a hb)).2 (hBo a h1)
    · have := (h.tlt a (hst a hb)).1; omega
  · intro b hb
    rw [hto] at hb
    rcases List.mem_append.1 hb with hb | hb
    · exact hge b (htn b hb)
    · exact hp.tge b hb
  · intro f hf
    rcases List.mem_append.1 hf with hf | hf
    · have hk := k.all f (List.mem_append_left _ hf)
      refine Fact.loose_holds (List.all_eq_true.1 hl f hf) hk (fun b hbt => ?_)
      have hbT : b ∈ Δ.toks := List.mem_flatMap.2 ⟨f, hf, hbt⟩
      rintro (hk' | hk')
      · have h1 := h.av b hk'
        have h2 := hge b (htn b hbT)
        omega
      · rw [ho] at hk'
        rcases List.mem_append.1 hk' with hk' | hk'
        · exact (htl b hbT).2 hk'
        · rcases htn b hbT with h1 | h1
          · exact hne b hk' h1
          · have := (h.ge b (hso b hk')).2; omega
    · obtain ⟨m, hm, hmf⟩ := sel_mem js Γ f hf
      refine Fact.frame hg.size (h.all f (List.mem_of_getElem? hmf)) (fun b hb => hg.block b (h.ge b (List.mem_flatMap.2 ⟨f, List.mem_of_getElem? hmf, hb⟩)).2 (hne b (List.mem_flatMap.2 ⟨f, hf, hb⟩))) (fun j hj => hg.block j (Nat.lt_of_lt_of_le hj h.lt) (fun hm => absurd (h.ge j (hBo j hm)).1 (by omega))) (fun j hj ha => ⟨hg.block j hj (fun hm => ha (.inr (hBo j hm))), ?_⟩)
      rintro (hj' | hj')
      · exact ha (.inl hj')
      · rw [ho] at hj'
        rcases List.mem_append.1 hj' with hj' | hj'
        · rcases hon j hj' with h1 | h1
          · exact ha (.inr (hBo j h1))
          · omega
        · exact ha (.inr (hso j hj'))
  · intro b hb
    rw [ho] at hb
    rcases List.mem_append.1 hb with hb | hb
    · rcases hon b hb with h1 | h1
      · exact .inl (hBo b h1)
      · exact .inr h1
    · exact .inl (hso b hb)

/-- What the callee is handed is there. -/
theorem SH.handed {Γin : Ctx} (h : SH A w0 w Γ) (is : List Nat) (hn : ndup is = true) (hin : Tc.sel is Γ = Γin) (hl : Γin.all Fact.loose = true) (ht : Γin.all (fun f => f.toks.isEmpty) = true) :
    PHanded w Γin := by
  subst hin
  refine ⟨sel_nodup is Γ hn h.nd, fun b hb => ?_, ?_, hl, fun f hf => ?_⟩
  · obtain ⟨m, _, f, hf, hbf⟩ := sel_owns is Γ b hb
    exact (h.ge b (List.mem_flatMap.2 ⟨f, List.mem_of_getElem? hf, hbf⟩)).2
  · simp only [Ctx.toks, List.flatMap_eq_nil_iff]
    intro f hf
    simpa using List.all_eq_true.1 ht f hf
  · obtain ⟨m, _, hmf⟩ := sel_mem is Γ f hf
    exact Fact.loose_holds (List.all_eq_true.1 hl f hf) (h.all f (List.mem_of_getElem? hmf)) (fun _ _ h => h)
/-- What is read, read apart from what is handed over. -/
theorem SH.apart {α : Type} [Rep α] {v : Value} {x : α} (h : SH A w0 w Γ) (is : List Nat) (hB : (Tc.sel is Γ).owns = B) (hr : Rd (fun k => A k ∨ k ∈ Γ.owns) w v x) : Rd (fun k => k ∈ B) w v x := by
  refine hr.weak fun k hk => .inr ?_
  rw [← hB] at hk
  obtain ⟨i, _, f, hf, hbf⟩ := sel_owns is Γ k hk
  exact List.mem_flatMap.2 ⟨f, List.mem_of_getElem? hf, hbf⟩

theorem PtrCon_of {k : Nat} {f : FuncId} {fn : Func} {body : Code} {vs : List Value} {G : Type} {v : R → G → Value} {fs : R → G → Ctx} {r : R}
    (hf : P.funcs[f]? = some fn) (hb : fn.body = some body) (hn : fn.ntmps = k) (hl : Nat.ble vs.length k = true) (hΓ : SH nowhere (bare w) w Γ) (hρ : enum 0 vs = ρ)
    (h : J P ⟨k, [], none⟩ nowhere (bare w) body (QBody P fn (Post nowhere (bare w) v (fun r x => fs r x ++ [outs w B, rest w B]))) ρ Γ E) (hE : E = some r) : PtrCon P f vs w B (v r) (fs r) :=
  ConM_of hf hb hn hl hΓ hρ h hE

def CaT (P : Program) (A : Nat → Prop) (w0 : World) (Γ : Ctx) (f : FuncId) (vs : List Value) {G : Type} (v : G → Value) (Γ' : G → Ctx) (T : List Nat) : Prop :=
  ∀ w, SH A w0 w Γ → Calls P f vs.toArray w fun e w' => ∃ x, e = .returned (v x) ∧ SH A w0 w' (Γ' x) ∧ Grow w w' T ∧ OwnNew Γ (Γ' x) w
theorem CaT_of {f : FuncId} {vs : List Value} {G : Type} {v : G → Value} {fs : G → Ctx} (is js : List Nat) (hn : ndup (js ++ is) = true) (hB : (sel is Γ).owns = B) (hl : ∀ x, (fs x).all Fact.loose = true) (h : ∀ w, SH A w0 w Γ → PtrCon P f vs w B v fs) : CaT P A w0 Γ f vs v (fun x => fs x ++ sel js Γ) B :=
  fun w hh => (h w hh).mono fun _ _ ⟨x, he, hk⟩ => ⟨x, he, hh.ptr_join is js hn hB hk (hl x)⟩
theorem JL_callT {ops : Array Oper} {rest : List Oper} {d : Nat} {f : FuncId} {args : List Operand} {ats : Array TypeId} {vs : List Value} {G : Type} {v : G → Value} {Γ' : G → Ctx} {T : List Nat}
    (hw : Wants n ρ ops ⟨some d, .call ⟨.value (.func f), args.toArray, ats⟩, ty, pos, after, g⟩) (hd : Nat.blt d n.n = true)
    (hf : ∀ args w, (callFunc f args).run P w = .ok (.enter f args) w) (hargs : evL ρ args = some vs) (hC : CaT P A w0 Γ f vs v Γ' T)
    (h : ∀ x, JL P n A w0 ops rest Q ((d, v x) :: ρ) (Γ' x) E) : JL P n A w0 ops (⟨some d, .call ⟨.value (.func f), args.toArray, ats⟩, ty, pos, after, g⟩ :: rest) Q ρ Γ E := by
  intro r hr a w hs hh
  refine wpList_step fun K hK => ?_
  rw [hw a hs]
  simp only [if_true]
  unfold Oper.wp
  rw [run_mark hs hf hargs, Oper.upon_enter]
  refine (hC w hh).mono ?_
  rintro e w' ⟨x, rfl, hh', _⟩
  exact hK _ _ (h x r hr _ _ (hs.put (by simpa [Nat.blt_eq] using hd)) hh')
theorem JO_callT {w1 : World} {Γ1 : Ctx} {ops : Array Oper} {O : List Nat} {fuel : Nat} {listed : Array Bool} {i d : Nat} {f : FuncId} {args : List Operand} {ats : Array TypeId} {vs : List Value} {G : Type} {v : G → Value} {Γ' : G → Ctx} {T : List Nat}
    (hi : ops[i]? = some ⟨some d, .call ⟨.value (.func f), args.toArray, ats⟩, ty, pos, after, g⟩) (hw : Wants n ρ ops ⟨some d, .call ⟨.value (.func f), args.toArray, ats⟩, ty, pos, after, g⟩) (hd : Nat.blt d n.n = true)
    (hf : ∀ args w, (callFunc f args).run P w = .ok (.enter f args) w) (hargs : evL ρ args = some vs) (hC : CaT P A w0 Γ f vs v Γ' T) (hT : ∀ k ∈ T, k ∈ O)
    (h : ∀ x, JD P n A w0 w1 Γ1 ops O fuel (listed.setIfInBounds i true) Q ((d, v x) :: ρ) (Γ' x) E) : JO P n A w0 w1 Γ1 ops O fuel listed Q i ρ Γ E := by
  intro r hr' a w hsa hh hg hon
  unfold wpOp
  simp only [hi, hw a hsa, if_true]
  refine .inl ?_
  unfold Oper.wp
  rw [run_mark hsa hf hargs, Oper.upon_enter]
  refine (hC w hh).mono ?_
  rintro e w' ⟨x, rfl, hh', hgr, hno⟩
  exact ⟨hg.more hgr hT, h x r hr' _ _ (hsa.put (by simpa [Nat.blt_eq] using hd)) hh' (hg.more hgr hT) (hon.trans hg hno)⟩
theorem N_ret4 {fn : Func} {rv1 rv2 rv3 rv4 : ResultVar} {u1 u2 u3 u4 : Value} {G : Type} {v : R → G → Value} {fs : R → G → Ctx} {r : R} (hres : fn.results = #[rv1, rv2, rv3, rv4]) (hu1 : Rv P n A w0 ρ Γ rv1 u1) (hu2 : Rv P n A w0 ρ Γ rv2 u2) (hu3 : Rv P n A w0 ρ Γ rv3 u3) (hu4 : Rv P n A w0 ρ Γ rv4 u4)
    (h : ∀ w, SH A w0 w Γ → ∃ x, .tuple #[u1, u2, u3, u4] = v r x ∧ SH A w0 w (fs r x)) (hds : n.ds = [] := by rfl) : N n A w0 (QBody P fn (Post A w0 v fs)) .ret ρ Γ (some r) := by
  rintro r' hr a w hs hh
  cases hr
  refine leaves0 (hs.defers.trans hds) ⟨.tuple #[u1, u2, u3, u4], ?_, ?_⟩
  · rw [results_rv, hres]
    simp [hu1 a w hs hh, hu2 a w hs hh, hu3 a w hs hh, hu4 a w hs hh]
  · obtain ⟨x, hx1, hx⟩ := h w hh
    exact ⟨x, by rw [hx1], hx⟩
theorem N_inl4 {fn : Func} {n2 : Fr} {ρ2 : Env} {ops : Array Oper} {rest : List Oper} {d : Nat} {K : R → Value → World → Prop} {rv1 rv2 rv3 rv4 : ResultVar} {u1 u2 u3 u4 : Value} (hK : Behind P n A w0 ops rest Q d ρ K) (hres : fn.results = #[rv1, rv2, rv3, rv4]) (hu1 : Rv P n2 A w0 ρ2 Γ rv1 u1) (hu2 : Rv P n2 A w0 ρ2 Γ rv2 u2) (hu3 : Rv P n2 A w0 ρ2 Γ rv3 u3) (hu4 : Rv P n2 A w0 ρ2 Γ rv4 u4)
    (h : JL P n A w0 ops rest Q ((d, .tuple #[u1, u2, u3, u4]) :: ρ) Γ E) (hds : n2.ds = [] := by rfl) : N n2 A w0 (QInl P fn K) .ret ρ2 Γ E := by
  intro r hr a w hs hh
  refine leaves0 (hs.defers.trans hds) ⟨.tuple #[u1, u2, u3, u4], ?_, _, rfl, hK _ _ _ h r hr w hh⟩
  rw [results_rv, hres]
  simp [hu1 a w hs hh, hu2 a w hs hh, hu3 a w hs hh, hu4 a w hs hh]
end
end Go.Tc
namespace Go.Tc
open Go Go.RowKit

/-- Numbers that stand in a box, one after the other. -/
def ints (os : List Int) : List Value := os.map (fun x => .int .i64 x)
theorem ints_length (os : List Int) : (ints os).length = os.length := by simp [ints]
/-- What stands there when a row has been copied over it. -/
def ovr (ys : List Int) : Nat → List Int → List Int
  | _, [] => []
  | j, o :: os => ys.getD j o :: ovr ys (j + 1) os
theorem ovr_eq (ys : List Int) : ∀ (os : List Int) (j : Nat), ovr ys j os = (ys.drop j).take os.length ++ os.drop (ys.length - j)
  | [], j => by simp [ovr]
  | o :: os, j => by
    rw [ovr, ovr_eq ys os (j + 1)]
    by_cases h : j < ys.length
    · rw [List.drop_eq_getElem_cons h, List.getD_eq_getElem?_getD, List.getElem?_eq_getElem h, List.length_cons, List.take_succ_cons, show ys.length - j = (ys.length - (j + 1)) + 1 by omega, List.drop_succ_cons]
      rfl
    · have e1 : ys.length - j = 0 := by omega
      have e2 : ys.length - (j + 1) = 0 := by omega
      rw [List.getD_eq_getElem?_getD, List.getElem?_eq_none (by omega), List.drop_eq_nil_of_le (by omega : ys.length ≤ j + 1), List.drop_eq_nil_of_le (by omega : ys.length ≤ j), e1, e2]
      simp
/-- What stands there when one of them has been written. -/
def setI (v j : Int) : Nat → List Int → List Int
  | _, [] => []
  | q, o :: os => (if j = (q : Int) then v else o) :: setI v j (q + 1) os
theorem setI_eq (v j : Int) : ∀ (os : List Int) (q : Nat), setI v j q os = if (q : Int) ≤ j then os.set (j.toNat - q) v else os
  | [], q => by simp [setI]
  | o :: os, q => by
    rw [setI, setI_eq v j os (q + 1)]
    by_cases h1 : j = (q : Int)
    · subst h1
      rw [if_pos rfl, if_neg (by omega), if_pos (by omega), Int.toNat_natCast, Nat.sub_self]
      rfl
    · rw [if_neg h1]
      by_cases h2 : (q : Int) ≤ j
      · rw [if_pos (by omega), if_pos h2, show j.toNat - q = (j.toNat - (q + 1)) + 1 by omega]
        rfl
      · rw [if_neg (by omega), if_neg h2]
section
variable {R : Type} {P : Program} {n : Fr} {A : Nat → Prop} {w0 : World} {Q : R → Exit → Act → World → Prop} {ρ ρ' : Env} {Γ Γ' : Ctx} {E : Option R}
variable {d : Option Nat} {ty : TypeId} {pos : String} {after : Array Edge} {g : Option (Nat × Bool)}
theorem ex_slice_bx {x : Operand} {t e : TypeId} {m s : Nat} {ag : Bool} {b off : Nat} (ht : P.underlying t = some (.array m e)) (he : tinf P e = some (s, ag)) (hx : ev ρ x = some (.pointer (some ⟨b, off, none⟩))) :
    Ex P n A w0 ρ Γ ⟨d, .slice t x none none none, ty, pos, after, g⟩ (.slice (some ⟨b, off, none⟩) m m) := by
  intro a w hs hh
  simp [execOp, hs.eval hx, Instr.sliceAt, Instr.sureAddr, Instr.sliceBounds, run_underlying ht, tinf_size he, Addr.add_lit]
theorem rdl_int {A : Nat → Prop} {w : World} : ∀ (xs : List Int) (cs : List Value), RdL A w cs xs → cs = ints xs
  | [], _, h => h
  | x :: r, _, ⟨c1, c2, e, h1, h2⟩ => by
    have h1 : c1 = [.int .i64 x] := h1
    rw [e, h1, rdl_int r c2 h2]
    rfl
theorem st_copy_bx {x y : Operand} {t e bt : TypeId} {ag : Bool} {b off : Nat} {m : Nat} {u : Value} {cs cs' : List Value} {ys : List Int} (os : List Int) (i : Nat) (ht : P.underlying t = some (.slice e)) (he : tinf P e = some (1, ag)) (hx : ev ρ x = some (.slice (some ⟨b, off, none⟩) m m)) (hy : ev ρ y = some u) (hi : Γ[i]? = some (.bx b bt cs))
    (hoff : Nat.ble off cs.length = true) (hos : (cs.drop off).take m = ints os) (hm : os.length = m) (hcs : cs.take off ++ ints (ovr ys 0 os) ++ cs.drop (off + m) = cs') (hs' : ∀ w, SH A w0 w Γ → Src (fun k => A k ∨ k ∈ Γ.owns) w u ys) :
    St P n A w0 ρ Γ ⟨d, .call ⟨.builtin .copy, #[x, y], #[t, t]⟩, ty, pos, after, g⟩ (fun _ : Unit => .int .i64 ((min m ys.length : Nat) : Int)) (fun _ => Γ.set i (.bx b bt cs')) [b] := by
  intro a w hs hh
  have hb : w.heap[b]? = some (.cells cs.toArray bt (0, 0)) := hh.get i hi
  have hsz : (P.info? e).map (·.size) = some 1 := by
    unfold tinf at he
    split at he
    · rename_i inf u' e1 e2
      simp at he
      simp [e1, he.1]
    · simp at he
  have hON : OwnNew Γ (Γ.set i (.bx b bt cs')) w := .set hi (fun c hc => .inl hc)
  rw [Nat.ble_eq] at hoff
  have hexec : (execOp a.eval ⟨d, .call ⟨.builtin .copy, #[x, y], #[t, t]⟩, ty, pos, after, g⟩).run P w = ((Builtin.copy_ #[t, t] ty #[.slice (some ⟨b, off, none⟩) m m, u]).run P w).andThen fun r w' => .ok (.value r) w' := by
    simp [execOp, resolve, invoke, builtin, hs.eval hx, hs.eval hy]
  have hlo : ((cs.drop off).take m).length = m := by rw [hos, ints_length, hm]
  rw [List.length_take, List.length_drop] at hlo
  have hdrop : cs.drop off = ints os ++ cs.drop (off + m) := by
    have := List.take_append_drop m (cs.drop off)
    rw [hos, List.drop_drop] at this
    exact this.symm
  rcases hs' w hh with ⟨rfl, rfl⟩ | ⟨ad, cap, news, rfl, hnc, hnews⟩
  · have e0 : cs' = cs := by
      rw [← hcs, ovr_eq]
      simp only [List.drop_nil, List.take_nil, List.nil_append, List.length_nil, Nat.zero_sub, List.drop_zero]
      rw [List.append_assoc, ← hdrop, List.take_append_drop]
    refine ⟨(), w, ?_, by rw [e0, set_self hi]; exact hh, Grow.refl w _, hON⟩
    rw [hexec, run_copy_none w t t ty e (some ⟨b, off, none⟩) none m m 0 0 ht hsz (by simp)]
    simp [goInt]
  · have hln := RdL.length _ _ hnews
    have hnv := rdl_int _ _ hnews
    have h1 : Rep.sz Int = 1 := rfl
    rw [h1, Nat.mul_one] at hln
    generalize hq : min ys.length m = q at *
    have hnt : (news.take q).length = q := by rw [List.length_take]; omega
    have hrun := run_copy_row (P := P) w t t ty e b off m m ad ys.length cap cs.toArray bt (news.take q) ht hsz hb (by rw [hnt]; exact hq.symm) (fun k v hk => hnc k v (by
        rw [List.getElem?_take] at hk
        split at hk
        · exact hk
        · simp at hk)) (by rw [hnt, List.size_toArray]; omega) (fun v hv => RdL.one _ _ hnews v (List.mem_of_mem_take hv))
    simp only [hnt] at hrun
    have e1 : cs.take off ++ news.take q ++ cs.drop (off + q) = cs' := by
      rw [← hcs, ovr_eq, ← List.drop_drop, hdrop, List.drop_append_of_le_length (by rw [ints_length]; omega), hnv]
      have : ints ((ys.drop 0).take os.length ++ os.drop (ys.length - 0)) = (ints ys).take q ++ (ints os).drop q := by
        unfold ints
        rw [List.map_append, List.map_take, List.map_drop, List.drop_zero, Nat.sub_zero]
        congr 1
        · by_cases hc : os.length ≤ ys.length
          · rw [show q = os.length by omega]
          · rw [List.take_of_length_le (by simp; omega), List.take_of_length_le (by simp; omega)]
        · by_cases hc : ys.length ≤ os.length
          · rw [show q = ys.length by omega]
            simp
          · rw [List.drop_eq_nil_of_le (by omega), List.drop_eq_nil_of_le (by simp; omega)]
            rfl
      rw [this]
      simp only [List.append_assoc]
    refine ⟨(), w.setRow b cs'.toArray, ?_, ?_, ⟨rfl, rfl, rfl, by simp, fun k _ hk => setRow_other w b k _ (fun e => hk (by simp [e]))⟩, hON⟩
    · rw [hexec, hrun, e1, Nat.min_comm, hq]
      simp [goInt]
    · refine hh.set hi ⟨rfl, rfl, rfl, by simp, fun k _ hk => setRow_other w b k _ (fun e => hk (by simp [Fact.owns, e]))⟩ (by simp [Fact.owns]) (fun c hc => ?_) ?_
      · simp [Fact.owns] at hc
        subst hc
        exact ⟨.inl (by simp [Fact.owns]), by simpa using lt_of_some hb⟩
      · exact setRow_heap w b _ _ _ _ hb
theorem ex_index_bx {x ix : Operand} {t e : TypeId} {k : IntKind} {m : Nat} {ag : Bool} {b off : Nat} {os : List Int} {j y : Int} (ht : P.underlying t = some (.array m e)) (he : tinf P e = some (1, ag)) (hx : ev ρ x = some (.pointer (some ⟨b, off, none⟩))) (hix : ev ρ ix = some (.int k j)) (hm : os.length = m) (hy : idx os j = some y) :
    Ex P n A w0 ρ Γ ⟨d, .indexAddr t x ix, ty, pos, after, g⟩ (.pointer (some ⟨b, off + j.toNat, none⟩)) := by
  intro a w hs hh
  obtain ⟨h0, h1, h2⟩ := idx_eq hy
  have hb : 0 ≤ j ∧ j < (m : Int) := ⟨by omega, by omega⟩
  simp [execOp, hs.eval hx, hs.eval hix, Instr.indexAt, Instr.sureAddr, asIntOf, run_underlying ht, hb, tinf_size he, Addr.add_lit]
theorem ex_load_bi {x : Operand} {t bt : TypeId} {b off : Nat} {cs : List Value} {j y : Int} (os : List Int) (i : Nat) (ht : tinf P t = some (1, false)) (hx : ev ρ x = some (.pointer (some ⟨b, off + j.toNat, none⟩))) (hi : Γ[i]? = some (.bx b bt cs)) (hos : (cs.drop off).take os.length = ints os) (hy : idx os j = some y) :
    Ex P n A w0 ρ Γ ⟨d, .load t x, ty, pos, after, g⟩ (.int .i64 y) := by
  refine ex_load_bx i ht hx hi ?_
  obtain ⟨h0, h1, h2⟩ := idx_eq hy
  have : (ints os)[j.toNat]? = some (.int .i64 y) := by simp [ints, h2]
  rw [← hos, List.getElem?_take, if_pos (by omega), List.getElem?_drop] at this
  exact this
theorem sk_store_bi {x y : Operand} {t bt : TypeId} {b off : Nat} {cs cs' : List Value} {j v y0 : Int} (os : List Int) (i : Nat) (ht : tinf P t = some (1, false)) (hx : ev ρ x = some (.pointer (some ⟨b, off + j.toNat, none⟩))) (hv : ev ρ y = some (.int .i64 v)) (hi : Γ[i]? = some (.bx b bt cs)) (hos : (cs.drop off).take os.length = ints os) (hy : idx os j = some y0)
    (hcs : cs.take off ++ ints (setI v j 0 os) ++ cs.drop (off + os.length) = cs') :
    Sk P n A w0 ρ Γ ⟨d, .store t x y, ty, pos, after, g⟩ (Γ.set i (.bx b bt cs')) [b] := by
  obtain ⟨h0, h1, h2⟩ := idx_eq hy
  have hlo : ((cs.drop off).take os.length).length = os.length := by rw [hos, ints_length]
  rw [List.length_take, List.length_drop] at hlo
  have hdrop : cs.drop off = ints os ++ cs.drop (off + os.length) := by
    have := List.take_append_drop os.length (cs.drop off)
    rw [hos, List.drop_drop] at this
    exact this.symm
  refine sk_store_bx (P := P) (cs' := cs') i ht hx hv (vs := [.int .i64 v]) rfl rfl rfl hi (by simp [Nat.ble_eq]; omega) ?_ rfl
  rw [← hcs, setI_eq, if_pos (by omega), Nat.sub_zero]
  have e1 : ints (os.set j.toNat v) = (ints os).take j.toNat ++ [.int .i64 v] ++ (ints os).drop (j.toNat + 1) := by
    unfold ints
    rw [List.map_set, List.set_eq_take_append_cons_drop, if_pos (by simp; omega)]
    simp
  rw [e1, List.take_add, hdrop, List.take_append_of_le_length (by rw [ints_length]; omega), List.length_singleton, ← List.drop_drop, ← List.drop_drop, hdrop]
  rw [List.drop_append_of_le_length (by rw [ints_length]; omega), List.drop_append_of_le_length (by simp [ints]; omega), List.drop_drop]
  simp only [List.append_assoc]
end
/-! ### Keys with arrays of numbers in them -/
section
variable {P : Program} {w : World}
theorem run_isAgg_t {t : TypeId} {s : Nat} {ag : Bool} (h : tinf P t = some (s, ag)) : (isAgg t).run P w = .ok ag w := by simp [tinf_agg h]
theorem run_part_one {e : TypeId} (h : tinf P e = some (1, false)) {cs : Array Value} {i : Nat} {v : Value} (hv : cs[i]? = some v) : (part e cs i).run P w = .ok v w := by
  simp [part, tinf_agg h, hv]
theorem run_part_agg {e : TypeId} {s : Nat} (h : tinf P e = some (s, true)) {cs : Array Value} {i : Nat} : (part e cs i).run P w = .ok (.agg (cs.extract i (i + s))) w := by
  simp [part, tinf_agg h, tinf_size h]
theorem run_checkKey_arr' (em : Bool) (n : Nat) (t e : TypeId) (len : Nat) (cs : Array Value) (ht : P.underlying t = some (.array len e)) (hs : tinf P e = some (1, false)) (hl : cs.size = len) (hin : ∀ (w : World) (v : Value), (Instr.checkKey em n e v).run P w = .ok () w) :
    (Instr.checkKey em (n + 1) t (.agg cs)).run P w = .ok () w := by
  simp only [Instr.checkKey, Sem.run_bind, run_underlying ht, Result.andThen_ok]
  simp only [Std.Legacy.Range.forIn_eq_forIn_range', Std.Legacy.Range.size, Nat.sub_zero, Nat.add_one_sub_one, Nat.div_one]
  have hb : ∀ i ∈ List.range' 0 len 1, i < cs.size := fun i hi => by
    have := List.mem_range'.1 hi
    obtain ⟨k, hk, rfl⟩ := this
    omega
  revert hb
  generalize List.range' 0 len 1 = is
  intro hb
  induction is with
  | nil => simp
  | cons i is ih =>
    have hi := hb i (by simp)
    have hv : cs[i * 1]? = some (cs[i]'hi) := by simp [Array.getElem?_eq_getElem hi]
    simp only [List.forIn_cons, Sem.run_bind, tinf_size hs, Result.andThen_ok, run_part_one (w := w) hs hv, hin, Sem.run_pure]
    exact ih (fun j hj => hb j (by simp [hj]))
theorem run_checkKey_arr (em : Bool) (n : Nat) (t e : TypeId) (len : Nat) (cs : Array Value) (ht : P.underlying t = some (.array len e)) (he : P.underlying e = some (.int .i64)) (hs : tinf P e = some (1, false)) (hl : cs.size = len) :
    (Instr.checkKey em (n + 2) t (.agg cs)).run P w = .ok () w := run_checkKey_arr' em (n + 1) t e len cs ht hs hl fun w v => by simp [Instr.checkKey, run_underlying he]
theorem run_equal_arr3' (d : Nat) (t e : TypeId) (a0 a1 a2 b0 b1 b2 : Int) (ht : P.underlying t = some (.array 3 e)) (hs : tinf P e = some (1, false)) (hq : ∀ (w : World) (x y : Int), (Op.equalIn d e (.int .i64 x) (.int .i64 y)).run P w = .ok (x == y) w) :
    (Op.equalIn (d + 1) t (.agg #[.int .i64 a0, .int .i64 a1, .int .i64 a2]) (.agg #[.int .i64 b0, .int .i64 b1, .int .i64 b2])).run P w = .ok (a0 == b0 && (a1 == b1 && a2 == b2)) w := by
  have hz : ∀ w : World, (sizeOf e).run P w = .ok 1 w := fun w => by simp [tinf_size hs]
  have hp : ∀ (w : World) (x0 x1 x2 : Int), (part e #[.int .i64 x0, .int .i64 x1, .int .i64 x2] 0).run P w = .ok (.int .i64 x0) w ∧ (part e #[.int .i64 x0, .int .i64 x1, .int .i64 x2] 1).run P w = .ok (.int .i64 x1) w ∧ (part e #[.int .i64 x0, .int .i64 x1, .int .i64 x2] 2).run P w = .ok (.int .i64 x2) w := fun w x0 x1 x2 => ⟨run_part_one hs rfl, run_part_one hs rfl, run_part_one hs rfl⟩
  simp only [Op.equalIn, Sem.run_bind, run_underlying ht, Result.andThen_ok, hz]
  simp only [Std.Legacy.Range.forIn_eq_forIn_range', Std.Legacy.Range.size, Nat.sub_zero, Nat.add_one_sub_one, Nat.div_one]
  rw [show List.range' 0 3 1 = [0, 1, 2] from rfl]
  simp only [List.forIn_cons, List.forIn_nil, Sem.run_bind, Nat.zero_mul, Nat.one_mul, Nat.mul_one, (hp _ _ _ _).1, (hp _ _ _ _).2.1, (hp _ _ _ _).2.2, Result.andThen_ok, hq]
  cases h0 : a0 == b0 <;> cases h1 : a1 == b1 <;> cases h2 : a2 == b2 <;> simp [hp, hq, h0, h1, h2]
theorem run_equal_arr3 (d : Nat) (t e : TypeId) (a0 a1 a2 b0 b1 b2 : Int) (ht : P.underlying t = some (.array 3 e)) (he : P.underlying e = some (.int .i64)) (hs : tinf P e = some (1, false)) :
    (Op.equalIn (d + 2) t (.agg #[.int .i64 a0, .int .i64 a1, .int .i64 a2]) (.agg #[.int .i64 b0, .int .i64 b1, .int .i64 b2])).run P w = .ok (a0 == b0 && (a1 == b1 && a2 == b2)) w :=
  run_equal_arr3' (d + 1) t e a0 a1 a2 b0 b1 b2 ht hs fun w x y => by simp [Op.equalIn, run_underlying he]
end
end Go.Tc
namespace Go.Tc
open Go Go.RowKit

/-! ### Plain -/
section
variable {α S R0 : Type}
/-- A loop over a list. -/
def foldU (f : S → α → Option (S ⊕ Out S R0)) : List α → S → Option (Out S R0)
  | [], s => some (.brk s)
  | p :: l, s => match f s p with
    | none => none
    | some (.inl s') => foldU f l s'
    | some (.inr o) => some o
open Classical in
/-- What a loop over a list gives that may be taken in any order: what all orders give. -/
noncomputable def rangeU (m : List α) (f : S → α → Option (S ⊕ Out S R0)) (s : S) : Option (Out S R0) :=
  if h : ∃ o, ∀ l, l.Perm m → foldU f l s = some o then some h.choose else none
theorem rangeU_all {m : List α} {f : S → α → Option (S ⊕ Out S R0)} {s : S} {o : Out S R0} (h : rangeU m f s = some o) : ∀ l, l.Perm m → foldU f l s = some o := by
  unfold rangeU at h
  split at h
  · rename_i hx
    rw [← Option.some.inj h]
    exact hx.choose_spec
  · cases h
theorem rangeU_eq {m : List α} {f : S → α → Option (S ⊕ Out S R0)} {s : S} {o : Out S R0} (h : ∀ l, l.Perm m → foldU f l s = some o) : rangeU m f s = some o := by
  unfold rangeU
  have hx : ∃ o, ∀ l, l.Perm m → foldU f l s = some o := ⟨o, h⟩
  rw [dif_pos hx]
  have := hx.choose_spec m (.refl _)
  rw [h m (.refl _)] at this
  exact this.symm
end

/-! ### The iterator -/
def rgF (b r : Nat) (es : Array MapEntry) (clock : Nat) (seen : Array Nat) : Fact :=
  .inv [r, b] (fun w => w.heap[b]? = some (.map es clock) ∧ w.heap[r]? = some (.mapIter (some b) clock seen clock))
/-- The entries that are left, with what they are read as. -/
def leftZ {α : Type} (es : Array MapEntry) (m : List α) (seen : Array Nat) : List (MapEntry × α) := (es.toList.zip m).filter fun z => !seen.contains z.1.born
theorem filter_push {α : Type} : ∀ (Z : List (MapEntry × α)) (seen : Array Nat) (z : MapEntry × α), (Z.map (·.1.born)).Nodup → z ∈ Z → seen.contains z.1.born = false →
    (Z.filter fun y => !seen.contains y.1.born).Perm (z :: Z.filter fun y => !(seen.push z.1.born).contains y.1.born)
  | [], _, z, _, h, _ => by simp at h
  | y :: Z, seen, z, hn, hz, hs => by
    have hn' : y.1.born ∉ Z.map (·.1.born) ∧ (Z.map (·.1.born)).Nodup := List.nodup_cons.1 hn
    rcases List.mem_cons.1 hz with rfl | hz
    · rw [List.filter_cons, if_pos (by rw [hs]; rfl), List.filter_cons, if_neg (by rw [Go.contains_push]; simp)]
      refine List.Perm.cons _ (List.Perm.of_eq ?_)
      refine List.filter_congr fun x hx => ?_
      have : ¬ x.1.born = z.1.born := fun e => hn'.1 (e ▸ List.mem_map.2 ⟨x, hx, rfl⟩)
      rw [Go.contains_push]
      cases seen.contains x.1.born <;> simp [this]
    · have ih := filter_push Z seen z hn'.2 hz hs
      have hne : ¬ y.1.born = z.1.born := fun e => hn'.1 (e ▸ List.mem_map.2 ⟨z, hz, rfl⟩)
      have he : (seen.push z.1.born).contains y.1.born = seen.contains y.1.born := by
        rw [Go.contains_push]
        cases seen.contains y.1.born <;> simp [hne]
      rw [List.filter_cons, List.filter_cons, he]
      cases hc : seen.contains y.1.born
      · simp only [Bool.not_false, if_true]
        exact (ih.cons y).trans (List.Perm.swap z y _)
      · simpa using ih

section
variable {R R0 S G : Type} {P : Program} {n : Fr} {A : Nat → Prop} {w0 w w' : World} {Q : R → Exit → Act → World → Prop} {ρ ρ' : Env} {Γ Γ' : Ctx} {E : Option R}
variable {ty : TypeId} {pos : String} {after : Array Edge} {g : Option (Nat × Bool)}
variable {κ ν : Type} {enc : κ → Value} {venc : ν → Value}
/-- What is known of a map's entries. -/
def Ents (enc : κ → Value) (venc : ν → Value) (m : List (κ × ν)) (es : Array MapEntry) (clock : Nat) : Prop :=
  es.toList.map (fun e => (e.key, e.val)) = m.map (fun p => (enc p.1, venc p.2)) ∧ Stamps es clock
theorem Ents.len {m : List (κ × ν)} {es : Array MapEntry} {clock : Nat} (h : Ents enc venc m es clock) : es.toList.length = m.length := by
  have := congrArg List.length h.1
  simpa using this
theorem Ents.zip {m : List (κ × ν)} {es : Array MapEntry} {clock : Nat} (h : Ents enc venc m es clock) {e : MapEntry} (he : e ∈ es.toList) : ∃ p, (e, p) ∈ es.toList.zip m ∧ e.key = enc p.1 ∧ e.val = venc p.2 := by
  obtain ⟨i, hi, rfl⟩ := List.getElem_of_mem he
  have hl := h.len
  have hi' : i < m.length := by omega
  refine ⟨m[i], ?_, ?_⟩
  · have : (es.toList.zip m)[i]'(by rw [List.length_zip]; omega) = (es.toList[i], m[i]) := List.getElem_zip
    rw [← this]
    exact List.getElem_mem _
  · have h1 := h.1
    have : (es.toList.map (fun e => (e.key, e.val)))[i]? = (m.map (fun p => (enc p.1, venc p.2)))[i]? := by rw [h1]
    rw [List.getElem?_map, List.getElem?_map, List.getElem?_eq_getElem hi, List.getElem?_eq_getElem hi'] at this
    simpa using this
theorem SH.rg {b r : Nat} {es : Array MapEntry} {clock : Nat} {seen : Array Nat} (h : SH A w0 w Γ) (i : Nat) (hi : Γ[i]? = some (rgF b r es clock seen)) : w.heap[b]? = some (.map es clock) ∧ w.heap[r]? = some (.mapIter (some b) clock seen clock) := h.get i hi w fun _ _ => rfl
theorem JL_range {ops : Array Oper} {rest : List Oper} {d : Nat} {x : Operand} {t k e : TypeId} {b : Nat} {m : List (κ × ν)} {mv : Value} (i : Nat) (ht : P.underlying t = some (.map k e)) (hx : ev ρ x = some mv) (hmv : mv = .map (some b)) (hi : Γ[i]? = some (mpf enc venc b m))
    (hw : Wants n ρ ops ⟨some d, .range t x, ty, pos, after, g⟩) (hd : Nat.blt d n.n = true)
    (h : ∀ r es clock, Ents enc venc m es clock → JL P n A w0 ops rest Q ((d, .pointer (some ⟨r, 0, none⟩)) :: ρ) (Γ.set i (rgF b r es clock #[])) E) :
    JL P n A w0 ops (⟨some d, .range t x, ty, pos, after, g⟩ :: rest) Q ρ Γ E := by
  intro r0 hr a w hs hh
  subst hmv
  refine wpList_step fun K hK => ?_
  rw [hw a hs]
  simp only [if_true]
  obtain ⟨es, clock, hb, he, hst⟩ := hh.map i hi
  have hlt : b < w.heap.size := lt_of_some hb
  have hrun : (execOp a.eval ⟨some d, .range t x, ty, pos, after, g⟩).run P w = .ok (.value (.pointer (some ⟨w.heap.size, 0, none⟩))) (w.alloc (.mapIter (some b) clock #[] clock)) := by
    simp only [execOp, hs.eval hx, Sem.run_bind, Go.run_range_map w t k e b es clock ht hb]
    rfl
  unfold Oper.wp
  rw [hrun, Oper.upon_value]
  refine hK _ _ (h w.heap.size es clock ⟨he, hst⟩ r0 hr _ _ (hs.put (by simpa [Nat.blt_eq] using hd)) ?_)
  have hbo : b ∈ (mpf enc venc b m).owns := by simp [mpf, Fact.owns]
  refine hh.set hi (Grow.alloc w _ _) ?_ (fun c hc => ?_) ?_
  · simp [rgF, Fact.owns]; omega
  · simp [rgF, Fact.owns] at hc
    rcases hc with rfl | rfl
    · exact ⟨.inr (Nat.le_refl _), by simp⟩
    · exact ⟨.inl hbo, by simp; omega⟩
  · intro w' hw'
    rw [hw' b (by simp), hw' w.heap.size (by simp)]
    exact ⟨by rw [heap_alloc_old w _ hlt]; exact hb, heap_alloc_new w _⟩
theorem JL_next {ops : Array Oper} {rest : List Oper} {d : Nat} {x : Operand} {b r : Nat} {es : Array MapEntry} {clock : Nat} {seen : Array Nat} (i : Nat) (hst : Stamps es clock) (hx : ev ρ x = some (.pointer (some ⟨r, 0, none⟩))) (hi : Γ[i]? = some (rgF b r es clock seen))
    (hw : Wants n ρ ops ⟨some d, .next x false, ty, pos, after, g⟩) (hd : Nat.blt d n.n = true)
    (hover : (Go.leftOf es seen).size = 0 → JL P n A w0 ops rest Q ((d, .tuple #[.bool false]) :: ρ) Γ E)
    (hstep : ∀ e ∈ (Go.leftOf es seen).toList, JL P n A w0 ops rest Q ((d, .tuple #[.bool true, e.key, e.val]) :: ρ) (Γ.set i (rgF b r es clock (seen.push e.born))) E) :
    JL P n A w0 ops (⟨some d, .next x false, ty, pos, after, g⟩ :: rest) Q ρ Γ E := by
  intro r0 hr a w hs hh
  refine wpList_step fun K hK => ?_
  rw [hw a hs]
  simp only [if_true]
  obtain ⟨hb, hit⟩ := hh.rg i hi
  unfold Oper.wp
  have hexec : (execOp a.eval ⟨some d, .next x false, ty, pos, after, g⟩).run P w = ((Instr.next (.pointer (some ⟨r, 0, none⟩)) false ty).run P w).andThen fun v w' => .ok (.value v) w' := by
    simp [execOp, hs.eval hx]
  rw [hexec]
  rcases Go.run_next_at (P := P) w ty r b clock clock seen es clock hit hb (fun x hx => hst.2 x hx) (Nat.le_refl _) with ⟨h0, h1⟩ | ⟨e, he, w1, hw1, h1⟩
  · rw [h1]
    exact hK _ _ (hover h0 r0 hr _ _ (hs.put (by simpa [Nat.blt_eq] using hd)) hh)
  · rw [h1]
    refine hK _ _ (hstep e he r0 hr _ _ (hs.put (by simpa [Nat.blt_eq] using hd)) ?_)
    have hsz : w1.heap.size = w.heap.size := by rcases hw1 with rfl | rfl <;> rfl
    have hhp : ∀ k : Nat, w1.heap[k]? = w.heap[k]? := by rcases hw1 with rfl | rfl <;> exact fun _ => rfl
    have hrb : r ≠ b := fun e' => by
      subst e'
      rw [hb] at hit
      cases hit
    have hrl : r < w.heap.size := lt_of_some hit
    have hbl : b < w.heap.size := lt_of_some hb
    have hnew : (Go.ChangeMaps.setBlock w1 r (.mapIter (some b) clock (seen.push e.born) clock)).heap[r]? = some (.mapIter (some b) clock (seen.push e.born) clock) := by
      simp [Go.ChangeMaps.setBlock, hsz, hrl]
    have hold : ∀ k, k ≠ r → (Go.ChangeMaps.setBlock w1 r (.mapIter (some b) clock (seen.push e.born) clock)).heap[k]? = w.heap[k]? := fun k hk => by
      rw [← hhp k]
      simp [Go.ChangeMaps.setBlock, Array.getElem?_setIfInBounds, Ne.symm hk]
    have hg : Grow w (Go.ChangeMaps.setBlock w1 r (.mapIter (some b) clock (seen.push e.born) clock)) (rgF b r es clock seen).owns := by
      refine ⟨?_, ?_, ?_, ?_, fun k hk hk' => hold k fun e' => hk' (by simp [rgF, Fact.owns, e'])⟩
      · rcases hw1 with rfl | rfl <;> rfl
      · rcases hw1 with rfl | rfl <;> rfl
      · rcases hw1 with rfl | rfl <;> rfl
      · simp [Go.ChangeMaps.setBlock, hsz]
    refine hh.set hi hg ?_ (fun c hc => ⟨.inl hc, ?_⟩) ?_
    · simpa [rgF, Fact.owns] using hrb
    · simp [rgF, Fact.owns] at hc
      have hs2 : (Go.ChangeMaps.setBlock w1 r (.mapIter (some b) clock (seen.push e.born) clock)).heap.size = w.heap.size := by simp [Go.ChangeMaps.setBlock, hsz]
      rw [hs2]
      rcases hc with rfl | rfl
      · exact hrl
      · exact hbl
    · intro w' hw'
      rw [hw' b (by simp), hw' r (by simp)]
      exact ⟨by rw [hold b (Ne.symm hrb)]; exact hb, hnew⟩
theorem ex_entry {d : Option Nat} {x : Operand} {b r : Nat} {es : Array MapEntry} {clock : Nat} {seen : Array Nat} {e : MapEntry} {kv vv : Value} (i : Nat) (hst : Stamps es clock) (he : e ∈ es.toList) (hk : e.key = kv) (hv : e.val = vv) (hx : ev ρ x = some (.pointer (some ⟨r, 0, none⟩))) (hi : Γ[i]? = some (rgF b r es clock (seen.push e.born))) :
    Ex P n A w0 ρ Γ ⟨d, .entry x, ty, pos, after, g⟩ (.tuple #[kv, vv]) := by
  intro a w hs hh
  obtain ⟨hb, hit⟩ := hh.rg i hi
  simp only [execOp, hs.eval hx, Sem.run_bind, Go.run_entry_at (P := P) w r b clock seen es clock e hit hb he hst.1, hk, hv]
  rfl
/-- The loop is over: the map is what it was. -/
theorem SH.unrange {b r : Nat} {es : Array MapEntry} {clock : Nat} {seen : Array Nat} {m : List (κ × ν)} (h : SH A w0 w Γ) (i : Nat) (hi : Γ[i]? = some (rgF b r es clock seen)) (hE : Ents enc venc m es clock) : SH A w0 w (Γ.set i (mpf enc venc b m)) := by
  obtain ⟨hb, _⟩ := h.rg i hi
  refine h.set hi (Grow.refl w _) (by simp [mpf, Fact.owns]) (fun c hc => ?_) ?_
  · simp [mpf, Fact.owns] at hc
    subst hc
    exact ⟨.inl (by simp [rgF, Fact.owns]), lt_of_some hb⟩
  · intro w' hw'
    exact ⟨es, clock, by rw [hw' _ (by simp)]; exact hb, hE.1, hE.2⟩
theorem sat_drop {t : Nat} {v : Value} {a : Act} (h : Sat n ((t, v) :: ρ) a) (hn : ρ.get t = none) : Sat n ρ a :=
  ⟨h.size, h.defers, fun q u hq => h.get q u (by
    simp only [Env.get]
    by_cases e : t = q
    · subst e
      rw [hn] at hq
      cases hq
    · rw [beq_false_of e]
      exact hq)⟩
theorem J_range {id rid tn tk : Nat} {it : Operand} {body : Code} {ty1 ty2 : TypeId} {pos1 pos2 : String} {after1 after2 : Array Edge} (m : List (κ × ν)) (f : S → κ × ν → Option (S ⊕ Out S R0)) (ρs : S → G → Env) (Γs : S → G → Ctx) {fa : S → Option R} {fr : R0 → Option R} {b r : Nat} {es : Array MapEntry} {clock : Nat}
    (hE : Ents enc venc m es clock) (s0 : S) (g0 : G) (hρ : SubE (ρs s0 g0) ρ) (is : List Nat) (hnd : ndup is = true) (hΓ : sel is Γ = rgF b r es clock #[] :: Γs s0 g0)
    (hne : tn ≠ tk) (hit : ∀ s g, ev (ρs s g) it = some (.pointer (some ⟨r, 0, none⟩))) (htn : Nat.blt tn n.n = true) (htk : Nat.blt tk n.n = true)
    (hfree : ∀ s g, (ρs s g).get tn = none ∧ (ρs s g).get tk = none)
    (hround : ∀ (s : S) (g : G) (seen : Array Nat) (e : MapEntry) (p : κ × ν), e ∈ es.toList → e.key = enc p.1 → e.val = venc p.2 → J P n A w0 body (QRound n A w0 id Q ρs (fun s g => rgF b r es clock (seen.push e.born) :: Γs s g) ρs (fun s g => rgF b r es clock (seen.push e.born) :: Γs s g) (Out.elim fa fr))
      ((tk, .bool true) :: (tn, .tuple #[.bool true, enc p.1, venc p.2]) :: ρs s g) (rgF b r es clock (seen.push e.born) :: Γs s g) (f s p))
    (hafter : ∀ (s : S) (g : G) (seen : Array Nat), N n A w0 Q .normal (ρs s g) (rgF b r es clock seen :: Γs s g) (fa s)) :
    J P n A w0 (.block id (.loop (.seq (.region rid [⟨some tn, .next it false, ty1, pos1, after1, none⟩, ⟨some tk, .extract (.tmp tn) 0, ty2, pos2, after2, none⟩].toArray false) (.seq (.cond (.tmp tk) .skip (.exit id)) body)))) Q ρ Γ (bnd (rangeU m f s0) (Out.elim fa fr)) := by
  refine J_sel _ hρ is hnd hΓ ?_
  intro x hx a w hs hh
  obtain ⟨o, ho, hK⟩ := bnd_some hx
  have hall := rangeU_all ho
  refine wpIn_block ?_
  refine wpIn_loop_ghost (fun k a' w' => ∃ s g seen, (Go.leftOf es seen).size = k ∧ (∀ l, l.Perm ((leftZ es m seen).map (·.2)) → foldU f l s = some o) ∧ Sat n (ρs s g) a' ∧ SH A w0 w' (rgF b r es clock seen :: Γs s g)) (Go.leftOf es #[]).size ⟨s0, g0, #[], rfl, ?_, hs, hh⟩ ?_
  · intro l hl
    refine hall l (hl.trans (List.Perm.of_eq ?_))
    unfold leftZ
    have hlen := hE.len
    rw [List.filter_eq_self.2 (fun z _ => by simp)]
    apply List.ext_getElem?
    intro j
    rw [List.getElem?_map]
    by_cases hj : j < m.length
    · rw [List.getElem?_eq_getElem (by rw [List.length_zip]; omega), List.getElem_zip, List.getElem?_eq_getElem hj]
      rfl
    · rw [List.getElem?_eq_none (by rw [List.length_zip]; omega), List.getElem?_eq_none (by omega)]
      rfl
  · rintro k a' w' ⟨s, g, seen, hk, hl, hs', hh'⟩
    have hnodup : ((es.toList.zip m).map (·.1.born)).Nodup := by
      have : (es.toList.zip m).map (·.1.born) = es.toList.map (·.born) := by
        have h1 : (es.toList.zip m).map (·.1) = es.toList := List.map_fst_zip (by have := hE.len; omega)
        conv => rhs; rw [← h1]
        rw [List.map_map]
        rfl
      rw [this]
      exact hE.2.1
    have hJ : J P n A w0 (.seq (.region rid [⟨some tn, .next it false, ty1, pos1, after1, none⟩, ⟨some tk, .extract (.tmp tn) 0, ty2, pos2, after2, none⟩].toArray false) (.seq (.cond (.tmp tk) .skip (.exit id)) body))
        (fun _ : Unit => Exit.then (fun a2 w2 => ∃ n', n' < k ∧ ∃ s g seen, (Go.leftOf es seen).size = n' ∧ (∀ l, l.Perm ((leftZ es m seen).map (·.2)) → foldU f l s = some o) ∧ Sat n (ρs s g) a2 ∧ SH A w0 w2 (rgF b r es clock seen :: Γs s g)) (Exit.inBlock id (Q x))) (ρs s g) (rgF b r es clock seen :: Γs s g) (some ()) := by
      refine J_seq (J_regionR rfl (JL_next 0 hE.2 (hit s g) rfl (wants_none rfl) htn (fun h0 => ?_) (fun e he => ?_)))
      · refine JL_q (wants_none rfl) htk (ex_extract (vs := #[.bool false]) (v := .bool false) (by simp [ev, Env.get]) rfl) (JL_nil (N_then (J_seq (J_if_false (b := false) (by simp [Env.get]) rfl (J_exit (N_then_exit ?_))))))
        intro _ _ a2 w2 hs2 hh2
        have hz : leftZ es m seen = [] := by
          unfold leftZ
          rw [List.filter_eq_nil_iff]
          rintro ⟨e, p⟩ hz
          have he : e ∈ es.toList := (List.of_mem_zip hz).1
          have hne : Go.leftOf es seen = #[] := Array.eq_empty_of_size_eq_zero h0
          intro hc
          have : e ∈ Go.leftOf es seen := Array.mem_filter.2 ⟨by simpa using he, hc⟩
          rw [hne] at this
          simp at this
        have hb := hl [] (by rw [hz]; exact .refl _)
        simp only [foldU, Option.some.injEq] at hb
        rw [← hb] at hK
        have hs3 : Sat n (ρs s g) a2 := sat_drop (sat_drop hs2 (by
          simp only [Env.get]
          rw [beq_false_of hne]
          exact (hfree s g).2)) (hfree s g).1
        have := hafter s g seen x hK a2 w2 hs3 hh2
        simpa [Exit.then, Exit.inBlock] using this
      · have he' := (Go.mem_left he).1
        obtain ⟨p, hz, hk', hv'⟩ := hE.zip he'
        rw [hk', hv']
        refine JL_q (wants_none rfl) htk (ex_extract (vs := #[.bool true, enc p.1, venc p.2]) (v := .bool true) (by simp [ev, Env.get]) rfl) (JL_nil (N_then (J_seq (J_if_true (b := true) (by simp [Env.get]) rfl (J_skip (N_then ?_))))))
        intro _ _ a2 w2 hs2 hh2
        have hperm := filter_push (es.toList.zip m) seen (e, p) hnodup hz (Go.mem_left he).2
        have hcons : ∀ l, l.Perm ((leftZ es m (seen.push e.born)).map (·.2)) → foldU f (p :: l) s = some o := fun l hp => by
          refine hl (p :: l) ((hp.cons p).trans ?_)
          exact (hperm.map (·.2)).symm
        have h1 := hcons _ (.refl _)
        cases hf : f s p with
        | none => simp [foldU, hf] at h1
        | some y =>
          refine Code.wpIn_mono ?_ (hround s g seen e p he' hk' hv' y hf a2 w2 hs2 hh2)
          intro e3 a3 w3 hq
          cases y with
          | inl s2 =>
            obtain ⟨rfl, g2, q1, q2⟩ := hq
            refine ⟨(Go.leftOf es (seen.push e.born)).size, ?_, s2, g2, seen.push e.born, rfl, fun l hp => ?_, q1, q2⟩
            · rw [← hk]; exact Go.left_shrinks es seen e he
            · have := hcons l hp
              simpa [foldU, hf] using this
          | inr y =>
            have ho2 : y = o := by simpa [foldU, hf] using h1
            subst ho2
            cases y with
            | brk s2 =>
              obtain ⟨rfl, g2, q1, q2⟩ := hq
              have := hafter s2 g2 (seen.push e.born) x hK a3 w3 q1 q2
              simpa [Exit.then, Exit.inBlock] using this
            | ret r0 =>
              obtain ⟨e2, ⟨rfl, rfl⟩ | ⟨rfl, rfl⟩, q1⟩ := hq
              · exact q1 x hK
              · have := q1 x hK
                simpa [Exit.then, Exit.inBlock] using this
    exact hJ () rfl a' w' hs' hh'
end
end Go.Tc
namespace Go.Tc
open Go Go.RowKit

section
variable {α : Type}
theorem tks_append (l m : List (Tk α)) : tks (l ++ m) = tks l ++ tks m := by simp [tks]
/-- The tokens from a place on. -/
def tlB (ts : List (Tk α)) (k : Int) : List Nat := tks (ts.drop k.toNat)
theorem tks_drop (ts : List (Tk α)) (n : Nat) : (tks (ts.drop n)).Sublist (tks ts) := by
  have : tks ts = tks (ts.take n) ++ tks (ts.drop n) := by rw [← tks_append, List.take_append_drop]
  rw [this]
  exact List.sublist_append_right _ _
theorem tl_idx {ts : List (Tk α)} {xs : List α} (h : dats ts = xs) {k : Int} {y : α} (hy : idx xs k = some y) : ∃ t, idx ts k = some t ∧ t.x = y := by
  subst h
  obtain ⟨h0, hlt, hy'⟩ := idx_eq hy
  rw [dats_length] at hlt
  refine ⟨ts[k.toNat], ?_, ?_⟩
  · unfold idx
    rw [if_neg (by omega), List.getElem?_eq_getElem hlt]
  · simpa [dats, hlt] using hy'
theorem tl_next {ts : List (Tk α)} (hl : ts.length ≤ maxLen) {k : Int} {t : Tk α} (hy : idx ts k = some t) : tlB ts k = t.B ++ tlB ts (w64 (k + 1)) := by
  obtain ⟨h0, hlt, hy'⟩ := idx_eq hy
  have hm : maxLen = 9223372036854775807 := by decide
  rw [w64_in (by omega) (by omega)]
  have : (k + 1).toNat = k.toNat + 1 := by omega
  unfold tlB
  rw [this, List.drop_eq_getElem_cons hlt]
  have he : ts[k.toNat] = t := by
    rw [List.getElem?_eq_getElem hlt] at hy'
    exact Option.some.inj hy'
  rw [he]
  simp [tks]
theorem tl_sub {β : Type} {ts : List (Tk α)} {us : List (Tk β)} {xs : List β} (h : dats us = xs) (hl : us.length ≤ maxLen) {k : Int} (hk : decide (k < (xs.length : Int)) = true) : (tlB ts (w64 (k + 1))).Sublist (tlB ts k) := by
  subst h
  have hk := of_decide_eq_true hk
  rw [dats_length] at hk
  have hm : maxLen = 9223372036854775807 := by decide
  have : k.toNat ≤ (w64 (k + 1)).toNat := by
    by_cases h0 : k < 0
    · omega
    · rw [w64_in (by omega) (by omega)]
      omega
  unfold tlB
  have e : ts.drop (w64 (k + 1)).toNat = (ts.drop k.toNat).drop ((w64 (k + 1)).toNat - k.toNat) := by
    rw [List.drop_drop]
    congr 1
    omega
  rw [e]
  exact tks_drop _ _
end
section
variable {R : Type} {P : Program} {n : Fr} {A : Nat → Prop} {w0 w w' : World} {Q : R → Exit → Act → World → Prop} {ρ ρ' : Env} {Γ Γ' : Ctx} {E : Option R}
variable {d : Option Nat} {ty : TypeId} {pos : String} {after : Array Edge} {g : Option (Nat × Bool)}
/-- Tokens that nobody reads. -/
abbrev hld (B : List Nat) : Fact := .tkn (.int .i64 0) (0 : Int) B
theorem SH.hld_sub {B C : List Nat} (h : SH A w0 w Γ) (i : Nat) (hi : Γ[i]? = some (hld B)) (hs : C.Sublist B) : SH A w0 w (Γ.set i (hld C)) := by
  refine h.retell hi rfl (fun hk => ⟨?_, fun b hb => hk.2 b (hs.subset hb)⟩) ?_ (fun b hb => h.tge b (List.mem_flatMap.2 ⟨_, List.mem_of_getElem? hi, hs.subset hb⟩))
  · exact ⟨[], ⟨[.int .i64 0], rfl, rfl, rfl⟩, by simp, by simp⟩
  · refine (toks_perm (f' := hld C) hi).nodup_iff.2 ?_
    refine ((toks_perm0 hi).nodup_iff.1 h.tnd).sublist ?_
    exact List.Sublist.append hs (List.Sublist.refl _)
theorem owns_hld {B C : List Nat} {i : Nat} (hi : Γ[i]? = some (hld B)) : Ctx.owns (Γ.set i (hld C)) = Γ.owns := owns_set_eq (f' := hld C) hi rfl
/-- What is taken out takes its tokens along. -/
theorem SH.tl_take {β : Type} [Rep β] {v : Value} {z : β} {B C D : List Nat} (h : SH A w0 w Γ) (i j : Nat) (hi : Γ[i]? = some (.rd v (⟨z, B⟩ : Tk β))) (hj : Γ[j]? = some (hld D)) (hD : D = B ++ C) :
    SH A w0 w (.rd v z :: .tkn v z B :: Γ.set j (hld C)) := by
  subst hD
  have hD := (h.get j hj).2
  obtain ⟨cs, hv, hdc, hav⟩ := h.get i hi
  have hn := (toks_perm0 hj).nodup_iff.1 h.tnd
  simp only [Fact.toks] at hn
  have hBn : B.Nodup := (List.nodup_append.1 (List.nodup_append.1 hn).1).1
  have h1 := h.hld_sub j hj (List.sublist_append_right B C)
  have h2 : SH A w0 w (.tkn v z B :: Γ.set j (hld C)) := by
    refine h1.consT (Grow.refl w []) (by simp [Fact.owns]) (by simp [Fact.owns]) ⟨⟨B, ⟨cs, hv, hdc⟩, hBn, fun _ h => h⟩, fun b hb => ⟨(hD b (by simp [hb])).1, ?_⟩⟩ ?_ (fun b hb => h.tge b (List.mem_flatMap.2 ⟨_, List.mem_of_getElem? hj, by have hb' : b ∈ B := hb; simp [Fact.toks, hb']⟩))
    · have ho : Ctx.owns (Fact.tkn v z B :: Γ.set j (hld C)) = Γ.owns := by
        have h6 : Ctx.owns (Fact.tkn v z B :: Γ.set j (hld C)) = Ctx.owns (Γ.set j (hld C)) := by simp [Ctx.owns, Fact.owns]
        rw [h6, owns_hld hj]
      rw [ho]
      exact hav b hb
    · show (B ++ Ctx.toks (Γ.set j (hld C))).Nodup
      refine ((toks_perm (f' := hld C) hj).append_left B).nodup_iff.2 ?_
      simp only [Fact.toks]
      rw [← List.append_assoc]
      exact hn
  exact h2.tkn_rd 0 rfl
theorem tl_owns {β : Type} [Rep β] {v : Value} {z : β} {B C D : List Nat} {j : Nat} (hj : Γ[j]? = some (hld D)) : ∀ b ∈ Ctx.owns (.rd v z :: .tkn v z B :: Γ.set j (hld C)), b ∈ Γ.owns := fun b hb => by
  have h6 : Ctx.owns (.rd v z :: .tkn v z B :: Γ.set j (hld C)) = Ctx.owns (Γ.set j (hld C)) := by simp [Ctx.owns, Fact.owns]
  rw [h6, owns_hld hj] at hb
  exact hb
/-- A row with tokens is from here on read alone; what is taken out of it takes its tokens along. -/
theorem SH.tail {α : Type} [Rep α] {e : TypeId} {v : Value} {xs : List α} {B : List Nat} (h : SH A w0 w Γ) (i : Nat) (hi : Γ[i]? = some (.od e v xs B)) (k : Int) :
    ∃ ts : List (Tk α), dats ts = xs ∧ ts.length ≤ maxLen ∧ SH A w0 w (hld (tlB ts k) :: .rd v ts :: Γ.set i (.rd v xs)) := by
  have hli := (List.getElem?_eq_some_iff.1 hi).1
  obtain ⟨⟨cells, B0, ho1, _, _, _⟩, h3⟩ := h.get i hi
  obtain ⟨ts, e1, e2, e4, h1⟩ := h.od_down i hi
  have hlen : ts.length ≤ maxLen := by
    rw [← dats_length, e1]
    rcases ho1.2 with ⟨_, h0⟩ | ⟨_, cap, _, _, _, _, hc, hm, _, _⟩
    · omega
    · omega
  have h5 := (h.od_ow i hi).freeze i (get_set hli)
  have h6 := h1.freeze i (get_set hli)
  rw [List.set_set] at h5 h6
  have ho : ∀ {β : Type} [Rep β] (y : β), ∃ l1 l2, Γ.owns = l1 ++ v.ownBlock.toList ++ l2 ∧ Ctx.owns (Γ.set i (.rd v y)) = l1 ++ [] ++ l2 := fun {β} _ y => owns_set (f' := .rd v y) hi
  have hoo : Ctx.owns (Γ.set i (.rd v ts)) = Ctx.owns (Γ.set i (.rd v xs)) := by
    have a := owns_set_eq (Γ := Γ.set i (.rd v ts)) (f := .rd v ts) (f' := .rd v xs) (get_set hli) rfl
    rw [List.set_set] at a
    exact a.symm
  have hrd := h6.get i (get_set hli)
  have h7 : SH A w0 w (.rd v ts :: Γ.set i (.rd v xs)) := h5.cons_rd (by rw [← hoo]; exact hrd)
  have hsub : ∀ b ∈ tlB ts k, b ∈ B := fun b hb => e4 b ((tks_drop ts _).subset hb)
  have hBt : ∀ b ∈ B, b ∈ Γ.toks := fun c hc => List.mem_flatMap.2 ⟨_, List.mem_of_getElem? hi, hc⟩
  have hsubo : ∀ b ∈ Ctx.owns (Γ.set i (.rd v xs)), b ∈ Γ.owns := fun b hb => by
    obtain ⟨l1, l2, a, c⟩ := ho xs
    rw [c] at hb
    rw [a]
    simp only [List.append_nil, List.mem_append] at hb ⊢
    rcases hb with hb | hb
    · exact .inl (.inl hb)
    · exact .inr hb
  refine ⟨ts, e1, hlen, ?_⟩
  refine h7.consT (Grow.refl w []) (by simp [Fact.owns]) (by simp [Fact.owns]) ⟨⟨[], ⟨[.int .i64 0], rfl, rfl, rfl⟩, by simp, by simp⟩, fun b hb => ⟨(h3 b (hsub b hb)).1, ?_⟩⟩ ?_ (fun b hb => h.tge b (hBt b (hsub b hb)))
  · have h8 : Ctx.owns (hld (tlB ts k) :: .rd v ts :: Γ.set i (.rd v xs)) = Ctx.owns (Γ.set i (.rd v xs)) := by simp [Ctx.owns, Fact.owns]
    rw [h8]
    rintro (hk | hk)
    · exact (h3 b (hsub b hb)).2 (.inl hk)
    · exact (h3 b (hsub b hb)).2 (.inr (hsubo b hk))
  · show (tlB ts k ++ Ctx.toks (.rd v ts :: Γ.set i (.rd v xs))).Nodup
    have h9 : Ctx.toks (.rd v ts :: Γ.set i (.rd v xs)) = Ctx.toks (Γ.set i (.rd v xs)) := by simp [Ctx.toks, Fact.toks]
    rw [h9]
    refine ((toks_perm (f' := .rd v xs) hi).append_left _).nodup_iff.2 ?_
    have p4 := (toks_perm0 hi).nodup_iff.1 h.tnd
    simp only [Fact.toks, List.nil_append] at p4 ⊢
    rw [List.nodup_append] at p4 ⊢
    exact ⟨e2.sublist (tks_drop ts _), p4.2.1, fun a ha b hb e => p4.2.2 a (hsub a ha) b hb e⟩
theorem J_tail {α : Type} [Rep α] {c : Code} {e : TypeId} {v : Value} {xs : List α} {B : List Nat} (i : Nat) (hi : Γ[i]? = some (.od e v xs B)) (k : Int)
    (h : ∀ ts : List (Tk α), dats ts = xs → ts.length ≤ maxLen → J P n A w0 c Q ρ (hld (tlB ts k) :: .rd v ts :: Γ.set i (.rd v xs)) E) : J P n A w0 c Q ρ Γ E := by
  intro r hr a w hs hh
  obtain ⟨ts, h1, h2, h3⟩ := hh.tail i hi k
  exact h ts h1 h2 r hr a w hs h3
theorem opT_sl {α : Type} [Rep α] (t : Tk (List α)) {y : List α} (hy : t.x = y) : Opens t (fun v : Value => v) (fun v => [.rd v (⟨y, t.B⟩ : Tk (List α))]) := by
  subst hy
  intro A B w v h
  exact ⟨v, rfl, by simpa [Fact.owns, Fact.toks, Fact.holds] using h⟩
end
end Go.Tc
namespace Go.Tc
open Go Go.RowKit

section
variable {A : Nat → Prop} {w0 w w' : World} {Γ Γ' Δ : Ctx} {B : List Nat}
/-- The same memory, told by other facts. -/
theorem SH.recast (h : SH A w0 w Γ) (hp : Γ'.owns.Perm Γ.owns) (hn : Γ'.toks.Nodup) (ht : ∀ b ∈ Γ'.toks, b ∈ Γ.toks) (hall : ∀ f ∈ Γ', f.holds (fun k => A k ∨ k ∈ Γ.owns) w0.heap.size w) : SH A w0 w Γ' := by
  have hm : ∀ b, b ∈ Γ'.owns ↔ b ∈ Γ.owns := fun b => hp.mem_iff
  refine ⟨h.below, h.av, hp.nodup_iff.2 h.nd, fun b hb => h.ge b ((hm b).1 hb), hn, fun b hb => h.tge b (ht b hb), ?_⟩
  have e : (fun k => A k ∨ k ∈ Γ'.owns) = (fun k => A k ∨ k ∈ Γ.owns) := by
    funext k
    rw [hm k]
  rw [e]
  exact hall
theorem DL.split {α : Type} [Rep α] {w : World} : ∀ (xs : List α) (cs : List Value) (B : List Nat) (k : Nat) (y : α), DL w cs xs B → xs[k]? = some y →
    ∃ c1 c c2 B1 Bi B2, cs = c1 ++ (c ++ c2) ∧ B = B1 ++ (Bi ++ B2) ∧ c1.length = k * Rep.sz α ∧ DL w c1 (xs.take k) B1 ∧ Rep.dc w c y Bi ∧ DL w c2 (xs.drop (k + 1)) B2
  | [], _, _, k, y, _, hk => by simp at hk
  | x :: r, _, _, 0, y, ⟨c1, c2, B1, B2, e, eB, h1, h2⟩, hk => by
    simp at hk
    subst hk e eB
    exact ⟨[], c1, c2, [], B1, B2, rfl, rfl, by simp, ⟨rfl, rfl⟩, h1, h2⟩
  | x :: r, _, _, k + 1, y, ⟨c1, c2, B1, B2, e, eB, h1, h2⟩, hk => by
    subst e eB
    obtain ⟨d1, d, d2, C1, Ci, C2, e1, e2, e3, e4, e5, e6⟩ := DL.split r c2 B2 k y h2 (by simpa using hk)
    have hl := Rep.len (Rep.dcr (A := nowhere) h1 fun _ _ h => h)
    refine ⟨c1 ++ d1, d, d2, B1 ++ C1, Ci, C2, by rw [e1]; simp, by rw [e2]; simp, by rw [List.length_append, hl, e3, Nat.add_mul]; omega, ⟨c1, d1, B1, C1, rfl, rfl, h1, e4⟩, e5, e6⟩
theorem DL.join {α : Type} [Rep α] {w : World} : ∀ (xs ys : List α) (c d : List Value) (B C : List Nat), DL w c xs B → DL w d ys C → DL w (c ++ d) (xs ++ ys) (B ++ C)
  | [], ys, _, d, _, C, ⟨e1, e2⟩, h => by subst e1 e2; exact h
  | x :: r, ys, _, d, _, C, ⟨c1, c2, B1, B2, e, eB, h1, h2⟩, h => by
    subst e eB
    exact ⟨c1, c2 ++ d, B1, B2 ++ C, by simp, by simp, h1, DL.join r ys c2 d B2 C h2 h⟩
/-- A datum of two rows. -/
def Two {α β γ : Type} [Rep α] [Rep β] [Rep γ] (y : α) (a : List β) (c : List γ) : Prop :=
  ∀ w cs B, Rep.dc w cs y B ↔ ∃ v0 v1 B0 B1, cs = [v0, v1] ∧ B = B0 ++ B1 ∧ DS w v0 a B0 ∧ DS w v1 c B1
/-- The elements beside one. -/
def HR {α : Type} [Rep α] (o cap : Nat) (xs : List α) (k : Nat) (L1 L2 : List Value) (B1 B2 : List Nat) (w : World) : Prop :=
  ∃ p c1 c2 q, L1 = p ++ c1 ∧ L2 = c2 ++ q ∧ p.length = o ∧ DL w c1 (xs.take k) B1 ∧ DL w c2 (xs.drop (k + 1)) B2 ∧ xs.length ≤ cap ∧ cap ≤ maxLen
theorem HR.frame {α : Type} [Rep α] {o cap : Nat} {xs : List α} {k : Nat} {L1 L2 : List Value} {B1 B2 : List Nat} (h : HR o cap xs k L1 L2 B1 B2 w) (hf : ∀ b ∈ B1 ++ B2, w'.heap[b]? = w.heap[b]?) : HR o cap xs k L1 L2 B1 B2 w' := by
  obtain ⟨p, c1, c2, q, e1, e2, e3, h1, h2, h3, h4⟩ := h
  exact ⟨p, c1, c2, q, e1, e2, e3, DL.frame _ _ _ h1 fun b hb => hf b (by simp [hb]), DL.frame _ _ _ h2 fun b hb => hf b (by simp [hb]), h3, h4⟩
abbrev hol {α : Type} [Rep α] (o cap : Nat) (xs : List α) (k : Nat) (L1 L2 : List Value) (B1 B2 : List Nat) : Fact := .inv (B1 ++ B2) (HR o cap xs k L1 L2 B1 B2)
theorem DS.oneV {α : Type} [Rep α] {v : Value} {xs : List α} (h : DS w v xs B) : v.oneCell' = true := by
  rcases h with ⟨_, _, ad, cap, rfl, _⟩ | ⟨b, off, cap, cells, Bs, arr, t', rfl, _⟩ <;> rfl
/-- An element is opened. -/
theorem SH.hole_open {α β γ : Type} [Rep α] [Rep β] [Rep γ] {b o cap : Nat} {xs : List α} {k : Int} {y : α} {a : List β} {c : List γ} (h : SH A w0 w Γ) (i : Nat) (hi : Γ[i]? = some (mkr (.slice (some ⟨b, o, none⟩) xs.length cap) xs B)) (hy : idx xs k = some y) (hs : Rep.sz α = 2) (ht : Two y a c) :
    ∃ L1 L2 v0 v1 C0 C1 B1 B2 t, L1.length = o + k.toNat * 2 ∧ B = b :: (B1 ++ (C0 ++ C1 ++ B2)) ∧ SH A w0 w (.bx b t (L1 ++ [v0, v1] ++ L2) :: mkr v0 a C0 :: mkr v1 c C1 :: hol o cap xs k.toNat L1 L2 B1 B2 :: Γ.set i (.pr True)) := by
  obtain ⟨hk0, hlt, hy'⟩ := idx_eq hy
  rcases h.mkd i hi with ⟨rfl, _⟩ | ⟨b', off', cap', cells, Bs, arr, t', hv, hb, h3, h4, h5, h6, hB⟩
  · simp at hlt
  simp only [Value.slice.injEq, Option.some.injEq, Addr.mk.injEq, and_true] at hv
  obtain ⟨⟨rfl, rfl⟩, _, rfl⟩ := hv
  obtain ⟨c1, e, c2, B1, Bi, B2, e1, e2, e3, e4, e5, e6⟩ := DL.split xs cells Bs k.toNat y h6 hy'
  obtain ⟨v0, v1, C0, C1, f1, f2, f3, f4⟩ := (ht _ _ _).1 e5
  subst f1 f2 e1 e2 hB
  have hcell : ∀ j, j < (c1 ++ ([v0, v1] ++ c2)).length → arr.toList[o + j]? = (c1 ++ ([v0, v1] ++ c2))[j]? := by
    intro j hj
    have := h5 j _ (List.getElem?_eq_getElem hj)
    simp only [World.cell?, hb] at this
    rw [List.getElem?_eq_getElem hj, ← this]
    simp
  have ho : o + (c1 ++ ([v0, v1] ++ c2)).length ≤ arr.toList.length := by
    have hpos : 0 < (c1 ++ ([v0, v1] ++ c2)).length := by simp; omega
    have := hcell ((c1 ++ ([v0, v1] ++ c2)).length - 1) (by omega)
    rw [List.getElem?_eq_getElem (by omega : (c1 ++ ([v0, v1] ++ c2)).length - 1 < (c1 ++ ([v0, v1] ++ c2)).length)] at this
    have := (List.getElem?_eq_some_iff.1 this).1
    omega
  have harr : arr.toList = arr.toList.take o ++ c1 ++ [v0, v1] ++ (c2 ++ arr.toList.drop (o + (c1 ++ ([v0, v1] ++ c2)).length)) := by
    have hmid : (arr.toList.drop o).take (c1 ++ ([v0, v1] ++ c2)).length = c1 ++ ([v0, v1] ++ c2) := by
      apply List.ext_getElem?
      intro j
      rw [List.getElem?_take]
      by_cases hj : j < (c1 ++ ([v0, v1] ++ c2)).length
      · rw [if_pos hj, List.getElem?_drop, hcell j hj]
      · rw [if_neg hj, List.getElem?_eq_none (by omega)]
    have : arr.toList = arr.toList.take o ++ ((arr.toList.drop o).take (c1 ++ ([v0, v1] ++ c2)).length ++ (arr.toList.drop o).drop (c1 ++ ([v0, v1] ++ c2)).length) := by
      rw [List.take_append_drop, List.take_append_drop]
    rw [hmid, List.drop_drop] at this
    simpa using this
  have hpl : (arr.toList.take o).length = o := by
    simp only [List.length_take]
    omega
  have hn : (b :: (B1 ++ (C0 ++ C1 ++ B2))).Nodup := nodup_at h.nd hi
  obtain ⟨l1, l2, o1, o2⟩ := owns_set (f' := .pr True) hi
  refine ⟨arr.toList.take o ++ c1, c2 ++ arr.toList.drop (o + (c1 ++ ([v0, v1] ++ c2)).length), v0, v1, C0, C1, B1, B2, t', by rw [List.length_append, hpl, e3, hs], rfl, ?_⟩
  refine h.recast ?_ ?_ ?_ ?_
  · have e : Ctx.owns (.bx b t' (arr.toList.take o ++ c1 ++ [v0, v1] ++ (c2 ++ arr.toList.drop (o + (c1 ++ ([v0, v1] ++ c2)).length))) :: mkr v0 a C0 :: mkr v1 c C1 :: hol o cap xs k.toNat (arr.toList.take o ++ c1) (c2 ++ arr.toList.drop (o + (c1 ++ ([v0, v1] ++ c2)).length)) B1 B2 :: Γ.set i (.pr True)) = [b] ++ (C0 ++ (C1 ++ ((B1 ++ B2) ++ Ctx.owns (Γ.set i (.pr True))))) := by
      simp [Ctx.owns, Fact.owns]
    rw [e, o1, o2]
    simp only [Fact.owns, List.append_nil]
    have p1 : ([b] ++ (C0 ++ (C1 ++ ((B1 ++ B2) ++ (l1 ++ l2))))).Perm ((b :: (B1 ++ (C0 ++ C1 ++ B2))) ++ (l1 ++ l2)) := by
      simp only [List.singleton_append, List.cons_append]
      refine List.Perm.cons b ?_
      have : (C0 ++ (C1 ++ ((B1 ++ B2) ++ (l1 ++ l2)))) = (C0 ++ C1) ++ B1 ++ (B2 ++ (l1 ++ l2)) := by simp
      rw [this]
      have e2 : B1 ++ (C0 ++ C1 ++ B2) ++ (l1 ++ l2) = B1 ++ (C0 ++ C1) ++ (B2 ++ (l1 ++ l2)) := by simp
      rw [e2]
      exact List.perm_append_comm.append_right _
    refine p1.trans ?_
    have p2 : ((b :: (B1 ++ (C0 ++ C1 ++ B2))) ++ (l1 ++ l2)).Perm (l1 ++ (b :: (B1 ++ (C0 ++ C1 ++ B2))) ++ l2) := by
      rw [← List.append_assoc]
      exact List.perm_append_comm.append_right _
    exact p2
  · have e : Ctx.toks (.bx b t' (arr.toList.take o ++ c1 ++ [v0, v1] ++ (c2 ++ arr.toList.drop (o + (c1 ++ ([v0, v1] ++ c2)).length))) :: mkr v0 a C0 :: mkr v1 c C1 :: hol o cap xs k.toNat (arr.toList.take o ++ c1) (c2 ++ arr.toList.drop (o + (c1 ++ ([v0, v1] ++ c2)).length)) B1 B2 :: Γ.set i (.pr True)) = Ctx.toks (Γ.set i (.pr True)) := by simp [Ctx.toks, Fact.toks]
    rw [e]
    exact toks_less hi rfl h.tnd
  · intro b' hb'
    have e : Ctx.toks (.bx b t' (arr.toList.take o ++ c1 ++ [v0, v1] ++ (c2 ++ arr.toList.drop (o + (c1 ++ ([v0, v1] ++ c2)).length))) :: mkr v0 a C0 :: mkr v1 c C1 :: hol o cap xs k.toNat (arr.toList.take o ++ c1) (c2 ++ arr.toList.drop (o + (c1 ++ ([v0, v1] ++ c2)).length)) B1 B2 :: Γ.set i (.pr True)) = Ctx.toks (Γ.set i (.pr True)) := by simp [Ctx.toks, Fact.toks]
    rw [e] at hb'
    obtain ⟨m1, m2, t1, t2⟩ := toks_set (f' := .pr True) hi
    rw [t2] at hb'
    rw [t1]
    simpa [Fact.toks] using hb'
  · intro f hf
    simp only [List.mem_cons] at hf
    rcases hf with rfl | rfl | rfl | rfl | hf
    · show w.heap[b]? = _
      rw [hb]
      congr 2
      apply Array.ext'
      simpa using harr
    · exact fun w2 hw2 => f3.frame hw2
    · exact fun w2 hw2 => f4.frame hw2
    · exact fun w2 hw2 => HR.frame ⟨_, _, _, _, rfl, rfl, hpl, e4, e6, h3, h4⟩ hw2
    · rcases List.mem_or_eq_of_mem_set hf with hf | rfl
      · exact h.all f hf
      · trivial
/-- .. and closed. -/
theorem SH.hole_close {α β γ : Type} [Rep α] [Rep β] [Rep γ] {b o cap k : Nat} {t : TypeId} {xs : List α} {y' : α} {a : List β} {c : List γ} {L1 L2 : List Value} {v0 v1 : Value} {C0 C1 B1 B2 : List Nat} (hk : k < xs.length) (ht : Two y' a c)
    (h : SH A w0 w (.bx b t (L1 ++ [v0, v1] ++ L2) :: mkr v0 a C0 :: mkr v1 c C1 :: hol o cap xs k L1 L2 B1 B2 :: Γ)) : SH A w0 w (mkr (.slice (some ⟨b, o, none⟩) xs.length cap) (xs.set k y') (b :: (B1 ++ (C0 ++ C1 ++ B2))) :: Γ) := by
  have hb : w.heap[b]? = some (.cells (L1 ++ [v0, v1] ++ L2).toArray t (0, 0)) := h.get 0 rfl
  have h0 : DS w v0 a C0 := h.mkd 1 rfl
  have h1 : DS w v1 c C1 := h.mkd 2 rfl
  obtain ⟨p, c1, c2, q, e1, e2, e3, d1, d2, hc, hm⟩ : HR o cap xs k L1 L2 B1 B2 w := h.get 3 rfl w (fun _ _ => rfl)
  have hds : DS w (.slice (some ⟨b, o, none⟩) xs.length cap) (xs.set k y') (b :: (B1 ++ (C0 ++ C1 ++ B2))) := by
    refine .inr ⟨b, o, cap, c1 ++ ([v0, v1] ++ c2), B1 ++ (C0 ++ C1 ++ B2), _, t, by simp, hb, by simpa using hc, hm, ?_, ?_, rfl⟩
    · intro j u hj
      simp only [World.cell?, hb, e1, e2, ← e3]
      simp only [List.append_assoc] at hj ⊢
      have : (p ++ (c1 ++ ([v0, v1] ++ (c2 ++ q))))[p.length + j]? = some u := by
        rw [List.getElem?_append_right (by omega), Nat.add_sub_cancel_left]
        have hlt := (List.getElem?_eq_some_iff.1 hj).1
        rw [show c1 ++ ([v0, v1] ++ (c2 ++ q)) = (c1 ++ ([v0, v1] ++ c2)) ++ q by simp, List.getElem?_append_left hlt]
        exact hj
      simpa using this
    · rw [List.set_eq_take_append_cons_drop, if_pos hk]
      refine DL.join _ _ _ _ _ _ d1 ⟨[v0, v1], c2, C0 ++ C1, B2, rfl, rfl, (ht _ _ _).2 ⟨v0, v1, C0, C1, rfl, rfl, h0, h1⟩, d2⟩
  refine h.recast ?_ ?_ ?_ ?_
  · have e : Ctx.owns (.bx b t (L1 ++ [v0, v1] ++ L2) :: mkr v0 a C0 :: mkr v1 c C1 :: hol o cap xs k L1 L2 B1 B2 :: Γ) = [b] ++ (C0 ++ (C1 ++ ((B1 ++ B2) ++ Γ.owns))) := by simp [Ctx.owns, Fact.owns]
    have e' : Ctx.owns (mkr (.slice (some ⟨b, o, none⟩) xs.length cap) (xs.set k y') (b :: (B1 ++ (C0 ++ C1 ++ B2))) :: Γ) = b :: (B1 ++ (C0 ++ C1 ++ B2) ++ Γ.owns) := by simp [Ctx.owns, Fact.owns]
    rw [e, e']
    simp only [List.singleton_append]
    refine List.Perm.cons b ?_
    have e3 : (C0 ++ (C1 ++ ((B1 ++ B2) ++ Γ.owns))) = (C0 ++ C1) ++ B1 ++ (B2 ++ Γ.owns) := by simp
    have e4 : B1 ++ (C0 ++ C1 ++ B2) ++ Γ.owns = B1 ++ (C0 ++ C1) ++ (B2 ++ Γ.owns) := by simp
    rw [e3, e4]
    exact List.perm_append_comm.append_right _
  · have := h.tnd
    simpa [Ctx.toks, Fact.toks] using this
  · intro b' hb'
    simpa [Ctx.toks, Fact.toks] using hb'
  · intro f hf
    rcases List.mem_cons.1 hf with rfl | hf
    · exact fun w2 hw2 => hds.frame hw2
    · exact h.all f (by simp [hf])
/-- An own row in full is from now on only read. -/
theorem SH.mktok {α : Type} [Rep α] {v : Value} {xs : List α} (h : SH A w0 w Γ) (i : Nat) (hi : Γ[i]? = some (mkr v xs B)) : SH A w0 w (.tkn v xs B :: Γ.set i (.rd v xs)) := by
  have hds := h.mkd i hi
  obtain ⟨l1, l2, o1, o2⟩ := owns_set (f' := .rd v xs) hi
  simp only [Fact.owns, List.append_nil] at o1 o2
  have hn := h.nd
  rw [o1] at hn
  have hBo : ∀ b ∈ B, b ∈ Γ.owns := fun b hb => by rw [o1]; simp [hb]
  have hsub : ∀ b ∈ Ctx.owns (Γ.set i (.rd v xs)), b ∈ Γ.owns := fun b hb => by rw [o2] at hb; rw [o1]; simp only [List.mem_append] at hb ⊢; rcases hb with hb | hb <;> simp [hb]
  have hnB : ∀ b ∈ B, b ∉ Ctx.owns (Γ.set i (.rd v xs)) := fun b hb hm => by
    rw [o2] at hm
    rw [List.append_assoc, List.nodup_append] at hn
    rcases List.mem_append.1 hm with hm | hm
    · exact hn.2.2 b hm b (by simp [hb]) rfl
    · exact (List.nodup_append.1 hn.2.1).2.2 b hb b hm rfl
  have hA : ∀ b ∈ B, ¬ A b := fun b hb ha => by
    have := h.av b ha
    have := (h.ge b (hBo b hb)).1
    omega
  have h1 : SH A w0 w (Γ.set i (.rd v xs)) := by
    refine ⟨h.below, h.av, ?_, fun b hb => h.ge b (hsub b hb), ?_, fun b hb => ?_, ?_⟩
    · rw [o2]
      rw [List.append_assoc, List.nodup_append] at hn
      rw [List.nodup_append]
      exact ⟨hn.1, (List.nodup_append.1 hn.2.1).2.1, fun a ha b hb => hn.2.2 a ha b (by simp [hb])⟩
    · exact toks_less hi rfl h.tnd
    · obtain ⟨m1, m2, t1, t2⟩ := toks_set (f' := .rd v xs) hi
      rw [t2] at hb
      exact h.tge b (by rw [t1]; simpa [Fact.toks] using hb)
    · intro f hf
      rcases List.mem_or_eq_of_mem_set hf with hf | rfl
      · refine Fact.frame (Nat.le_refl _) (h.all f hf) (fun _ _ => rfl) (fun _ _ => rfl) (fun k _ ha => ⟨rfl, ?_⟩)
        rintro (hk | hk)
        · exact ha (.inl hk)
        · exact ha (.inr (hsub k hk))
      · exact .mk_sl (hds.rd fun b hb => by
          rintro (hk | hk)
          · exact hA b hb hk
          · exact hnB b hb hk)
  refine h1.consT (Grow.refl w []) (by simp [Fact.owns]) (by simp [Fact.owns]) ⟨⟨B, hds.dc, nodup_at h.nd hi, fun _ h => h⟩, fun b hb => ⟨(h.ge b (hBo b hb)).2, ?_⟩⟩ ?_ (fun b hb => (h.ge b (hBo b hb)).1)
  · have e : Ctx.owns (.tkn v xs B :: Γ.set i (.rd v xs)) = Ctx.owns (Γ.set i (.rd v xs)) := by simp [Ctx.owns, Fact.owns]
    rw [e]
    rintro (hk | hk)
    · exact hA b hb hk
    · exact hnB b hb hk
  · show (B ++ Ctx.toks (Γ.set i (.rd v xs))).Nodup
    rw [List.nodup_append]
    refine ⟨nodup_at h.nd hi, toks_less hi rfl h.tnd, fun a ha b hb e => ?_⟩
    subst e
    obtain ⟨m1, m2, t1, t2⟩ := toks_set (f' := .rd v xs) hi
    rw [t2] at hb
    exact (h.tlt a (by rw [t1]; simpa [Fact.toks] using hb)).2 (hBo a ha)
theorem mktok_owns {α : Type} [Rep α] {v : Value} {xs : List α} {i : Nat} (hi : Γ[i]? = some (mkr v xs B)) : ∀ b ∈ Ctx.owns (.tkn v xs B :: Γ.set i (.rd v xs)), b ∈ Γ.owns := fun b hb => by
  obtain ⟨l1, l2, o1, o2⟩ := owns_set (f' := .rd v xs) hi
  have e : Ctx.owns (.tkn v xs B :: Γ.set i (.rd v xs)) = Ctx.owns (Γ.set i (.rd v xs)) := by simp [Ctx.owns, Fact.owns]
  rw [e, o2] at hb
  rw [o1]
  simp only [Fact.owns, List.append_nil, List.mem_append] at hb ⊢
  rcases hb with hb | hb <;> simp [hb]
theorem SH.mk0 {α : Type} [Rep α] {v : Value} {xs : List α} (h : SH A w0 w Γ) (i : Nat) (hi : Γ[i]? = some (mkr v xs B)) : Rd nowhere w v xs := .mk_sl ((h.mkd i hi).rd fun _ _ hk => hk)
theorem SH.cv_mk {α : Type} [Rep α] {v : Value} {xs : List α} (h : SH A w0 w Γ) (i : Nat) (hi : Γ[i]? = some (mkr v xs B)) : CV v [v] := by
  rcases h.mkd i hi with ⟨_, _, ad, cap, rfl, _⟩ | ⟨b, off, cap, cells, Bs, arr, t', rfl, _⟩ <;> exact cv_slice
theorem SH.mk_nil {α : Type} [Rep α] (h : SH A w0 w Γ) : SH A w0 w (mkr (.slice none 0 0) ([] : List α) [] :: Γ) :=
  h.cons (Grow.refl w []) (by simp [Fact.owns]) (by simp [Fact.owns]) (fun _ _ => .inl ⟨rfl, rfl, none, 0, rfl, fun _ => rfl, Nat.zero_le _⟩)
/-- Tokens become an own row again, where nothing else is read. -/
theorem SH.unfreeze {α : Type} [Rep α] {v : Value} {xs : List α} {C : List Nat} (h : SH nowhere (bare w) w' (Δ ++ [outs w B, rest w B])) (i : Nat) (hi : Δ[i]? = some (.tkn v xs C)) (hl : Δ.all Fact.loose = true) :
    ∃ C', SH nowhere (bare w) w' (Δ.set i (mkr v xs C') ++ [outs w B, rest w B]) := by
  have hlt := (List.getElem?_eq_some_iff.1 hi).1
  have hi' : (Δ ++ [outs w B, rest w B])[i]? = some (.tkn v xs C) := by rw [List.getElem?_append_left hlt]; exact hi
  obtain ⟨⟨C', hdc, hn, hsub⟩, hC⟩ := h.get i hi'
  have hds := hdc.ds
  have e : Δ.set i (mkr v xs C') ++ [outs w B, rest w B] = (Δ ++ [outs w B, rest w B]).set i (mkr v xs C') := by rw [List.set_append_left _ _ hlt]
  refine ⟨C', ?_⟩
  rw [e]
  obtain ⟨l1, l2, o1, o2⟩ := owns_set (f' := mkr v xs C') hi'
  simp only [Fact.owns, List.append_nil] at o1 o2
  obtain ⟨m1, m2, t1, t2⟩ := toks_set (f' := mkr v xs C') hi'
  simp only [Fact.toks, List.append_nil] at t1 t2
  have hCt : ∀ b ∈ C', b ∈ Ctx.toks (Δ ++ [outs w B, rest w B]) := fun b hb => by rw [t1]; simp [hsub b hb]
  have htn := h.tnd
  have hnew : ∀ b, b ∈ Ctx.owns ((Δ ++ [outs w B, rest w B]).set i (mkr v xs C')) ↔ b ∈ Ctx.owns (Δ ++ [outs w B, rest w B]) ∨ b ∈ C' := by
    intro b
    rw [o1, o2]
    simp only [List.mem_append]
    constructor
    · rintro ((hb | hb) | hb)
      · exact .inl (.inl hb)
      · exact .inr hb
      · exact .inl (.inr hb)
    · rintro ((hb | hb) | hb)
      · exact .inl (.inl hb)
      · exact .inr hb
      · exact .inl (.inr hb)
  have hdis : ∀ (j : Nat) (f : Fact), j ≠ i → (Δ ++ [outs w B, rest w B])[j]? = some f → ∀ b ∈ f.toks, b ∉ C' := by
    intro j f hj hf b hb hbC
    have p := (toks_perm0 hi').nodup_iff.1 htn
    simp only [Fact.toks] at p
    rw [List.nodup_append] at p
    refine p.2.2 b (hsub b hbC) b ?_ rfl
    have : ((Δ ++ [outs w B, rest w B]).set i (.pr True))[j]? = some f := by rw [List.getElem?_set_ne (Ne.symm hj)]; exact hf
    exact List.mem_flatMap.2 ⟨f, List.mem_of_getElem? this, hb⟩
  refine ⟨h.below, h.av, ?_, fun b hb => ⟨by simp [bare], ?_⟩, ?_, fun b _ => by simp [bare], ?_⟩
  · rw [o2]
    have hn0 := h.nd
    rw [o1] at hn0
    have hx : ∀ b ∈ C', b ∉ l1 ++ l2 := fun b hb hm => (h.tlt b (hCt b hb)).2 (by rw [o1]; exact hm)
    rw [List.nodup_append] at hn0
    rw [List.append_assoc, List.nodup_append]
    refine ⟨hn0.1, List.nodup_append.2 ⟨hn, hn0.2.1, fun a ha b hb e => hx a ha (by rw [e]; simp [hb])⟩, fun a ha b hb e => ?_⟩
    rcases List.mem_append.1 hb with hb | hb
    · exact hx b hb (by rw [← e]; simp [ha])
    · exact hn0.2.2 a ha b hb e
  · rcases (hnew b).1 hb with hb | hb
    · exact (h.ge b hb).2
    · exact (hC b (hsub b hb)).1
  · rw [t2]
    have := htn
    rw [t1] at this
    simpa using nodup_mid this
  · intro f hf
    obtain ⟨j, hj⟩ := List.mem_iff_getElem?.1 hf
    by_cases hji : j = i
    · subst hji
      rw [get_set (List.getElem?_eq_some_iff.1 hi').1] at hj
      cases hj
      exact fun w2 hw2 => hds.frame hw2
    · rw [List.getElem?_set_ne (Ne.symm hji)] at hj
      have hh := h.all f (List.mem_of_getElem? hj)
      have htk := hdis j f hji hj
      have hav : ∀ b ∈ f.toks, ¬ (nowhere b ∨ b ∈ Ctx.owns ((Δ ++ [outs w B, rest w B]).set i (mkr v xs C'))) := by
        intro b hb
        rintro (hk | hk)
        · exact hk
        · rcases (hnew b).1 hk with hk | hk
          · exact (h.tlt b (List.mem_flatMap.2 ⟨f, List.mem_of_getElem? hj, hb⟩)).2 hk
          · exact htk b hb hk
      by_cases hjl : j < Δ.length
      · rw [List.getElem?_append_left hjl] at hj
        exact Fact.loose_holds (List.all_eq_true.1 hl f (List.mem_of_getElem? hj)) hh hav
      · rw [List.getElem?_append_right (by omega)] at hj
        match hm : j - Δ.length, hj with
        | 0, hj =>
          simp at hj
          subst hj
          exact Fact.loose_holds rfl hh hav
        | 1, hj =>
          simp at hj
          subst hj
          refine ⟨hh.1, fun k hk => ⟨?_, (hh.2 k hk).2⟩⟩
          rintro (hk' | hk')
          · exact hk'
          · rcases (hnew k).1 hk' with hk' | hk'
            · exact (hh.2 k hk).1 (.inr hk')
            · refine hdis Δ.length (outs w B) (by omega) (by simp) k ?_ hk'
              exact mem_restL.2 hk
        | m + 2, hj => simp at hj
/-- An own row without inner rows is one in full. -/
theorem SH.ow_mk {α : Type} [Rep α] {e : TypeId} {v : Value} {xs : List α} (h : SH A w0 w Γ) (i : Nat) (hi : Γ[i]? = some (.ow e v xs)) (hf : Rep.flat α = true) : SH A w0 w (Γ.set i (mkr v xs v.ownBlock.toList)) := by
  have hnn := nodup_at h.nd hi
  refine h.set hi (Grow.refl w _) hnn (fun b hb => ⟨.inl hb, (h.ge b (List.mem_flatMap.2 ⟨_, List.mem_of_getElem? hi, hb⟩)).2⟩) ?_
  obtain ⟨cells, ho, hr⟩ := h.get i hi
  have hd := DL.flat hf _ _ hr
  have hds : DS w v xs v.ownBlock.toList := by
    rcases ho.2 with ⟨rfl, h0⟩ | ⟨g, cap, cur, rfl, hb, hg, hc, hm, hcs, htk⟩
    · exact .inl ⟨List.eq_nil_of_length_eq_zero h0, rfl, none, 0, rfl, fun _ => rfl, Nat.zero_le _⟩
    · refine .inr ⟨g, 0, cap, cells, [], cur, e, rfl, hg, hc, hm, ?_, hd, rfl⟩
      intro j u hj
      rw [← htk, List.getElem?_take] at hj
      split at hj
      · simpa [World.cell?, hg] using hj
      · simp at hj
  exact fun w2 hw2 => hds.frame hw2
theorem ow_mk_owns {α : Type} [Rep α] {e : TypeId} {v : Value} {xs : List α} {i : Nat} (hi : Γ[i]? = some (.ow e v xs)) : ∀ b ∈ Ctx.owns (Γ.set i (mkr v xs v.ownBlock.toList)), b ∈ Γ.owns := fun b hb => by
  rwa [owns_set_eq (f' := mkr v xs v.ownBlock.toList) hi rfl] at hb
theorem Con.mapx {P : Program} {f : FuncId} {vs : List Value} {G G' : Type} {v : G → Value} {fs : G → Ctx} {v' : G' → Value} {fs' : G' → Ctx} (h : Con P f vs A w v fs) (hf : ∀ x w', SH A w w' (fs x) → ∃ y, v x = v' y ∧ SH A w w' (fs' y)) : Con P f vs A w v' fs' :=
  h.mono fun e w' ⟨x, he, hk⟩ => by
    obtain ⟨y, h1, h2⟩ := hf x w' hk
    exact ⟨y, by rw [he, h1], h2⟩
/-- A new row with tokens is an own row in full. -/
theorem SH.od_mk {α : Type} [Rep α] {e : TypeId} {v : Value} {xs : List α} (h : SH A w w' [.od e v xs B]) : ∃ C, SH A w w' [mkr v xs C] := by
  obtain ⟨⟨cells, B0, ho, hd, hn, hsub⟩, hB⟩ := h.get 0 rfl
  have hl : cells.length = xs.length * Rep.sz α := ho.1
  have how : Ctx.owns [Fact.od e v xs B] = v.ownBlock.toList := by simp [Ctx.owns, Fact.owns]
  rw [how] at hB
  have hkey : ∃ C, DS w' v xs C ∧ C.Nodup ∧ (∀ b ∈ C, w.heap.size ≤ b ∧ b < w'.heap.size) := by
    rcases ho.2 with ⟨rfl, h0⟩ | ⟨g, cap, cur, rfl, hb, hg, hc, hm, hcs, htk⟩
    · have hx : xs = [] := List.eq_nil_of_length_eq_zero h0
      exact ⟨[], .inl ⟨hx, rfl, none, 0, rfl, fun _ => rfl, Nat.zero_le _⟩, by simp, by simp⟩
    · refine ⟨g :: B0, .inr ⟨g, 0, cap, cells, B0, cur, e, rfl, hg, hc, hm, ?_, hd, rfl⟩, ?_, ?_⟩
      · intro j u hj
        have hlt := (List.getElem?_eq_some_iff.1 hj).1
        rw [← htk, List.getElem?_take] at hj
        split at hj
        · simpa [World.cell?, hg] using hj
        · simp at hj
      · rw [List.nodup_cons]
        exact ⟨fun hm' => (hB g (hsub g hm')).2 (.inr (by simp [Value.ownBlock])), hn⟩
      · intro b hb'
        rcases List.mem_cons.1 hb' with rfl | hb'
        · exact h.ge b (by rw [how]; simp [Value.ownBlock])
        · exact ⟨h.tge b (by simpa [Ctx.toks, Fact.toks] using hsub b hb'), (hB b (hsub b hb')).1⟩
  obtain ⟨C, hds, hCn, hCg⟩ := hkey
  refine ⟨C, h.below, h.av, by simpa [Ctx.owns, Fact.owns] using hCn, fun b hb => hCg b (by simpa [Ctx.owns, Fact.owns] using hb), by simp [Ctx.toks, Fact.toks], fun b hb => by simp [Ctx.toks, Fact.toks] at hb, fun f hf => ?_⟩
  simp only [List.mem_singleton] at hf
  subst hf
  exact fun w2 hw2 => hds.frame hw2
end
section
variable {R : Type} {P : Program} {n : Fr} {A : Nat → Prop} {w0 w w' : World} {Q : R → Exit → Act → World → Prop} {ρ ρ' : Env} {Γ Γ' : Ctx} {E : Option R} {B : List Nat}
variable {d : Option Nat} {ty : TypeId} {pos : String} {after : Array Edge} {g : Option (Nat × Bool)}
theorem JL_hole {α β γ : Type} [Rep α] [Rep β] [Rep γ] {ops : Array Oper} {l : List Oper} {b o cap : Nat} {xs : List α} {k : Int} {y : α} {a : List β} {c : List γ} (i : Nat) (hi : Γ[i]? = some (mkr (.slice (some ⟨b, o, none⟩) xs.length cap) xs B)) (hy : idx xs k = some y) (hs : Rep.sz α = 2) (ht : Two y a c)
    (h : ∀ L1 L2 v0 v1 C0 C1 B1 B2 t, L1.length = o + k.toNat * 2 → JL P n A w0 ops l Q ρ (.bx b t (L1 ++ [v0, v1] ++ L2) :: mkr v0 a C0 :: mkr v1 c C1 :: hol o cap xs k.toNat L1 L2 B1 B2 :: Γ.set i (.pr True)) E) : JL P n A w0 ops l Q ρ Γ E := by
  intro r hr a' w hs' hh
  obtain ⟨L1, L2, v0, v1, C0, C1, B1, B2, t, e1, _, hk⟩ := hh.hole_open i hi hy hs ht
  exact h L1 L2 v0 v1 C0 C1 B1 B2 t e1 r hr a' w hs' hk
theorem ex_index_hole {α : Type} {x ix : Operand} {t e : TypeId} {k : IntKind} {ag : Bool} {b off cap len s : Nat} {xs : List α} {j : Int} {y : α} {L1 : List Value} (ht : P.underlying t = some (.slice e)) (he : tinf P e = some (s, ag))
    (hx : ev ρ x = some (.slice (some ⟨b, off, none⟩) len cap)) (hix : ev ρ ix = some (.int k j)) (hy : idx xs j = some y) (hl : len = xs.length) (hL : L1.length = off + j.toNat * s) :
    Ex P n A w0 ρ Γ ⟨d, .indexAddr t x ix, ty, pos, after, g⟩ (.pointer (some ⟨b, L1.length, none⟩)) := by
  rw [hL]
  exact ex_index_lit ht he hx hix hy hl
theorem sub_mk {α : Type} [Rep α] {js : List Nat} {v : Value} {xs : List α} (m : Nat) (hm : (sel js Γ)[m]? = some (mkr v xs B)) : ∀ k ∈ B, k ∈ (sel js Γ).owns := owns_sub m hm
theorem app_at {L1 L2 cs : List Value} {j : Nat} {v : Value} (h : cs[j]? = some v) : (L1 ++ cs ++ L2)[L1.length + j]? = some v := by
  have hlt := (List.getElem?_eq_some_iff.1 h).1
  rw [List.append_assoc, List.getElem?_append_right (by omega), Nat.add_sub_cancel_left, List.getElem?_append_left hlt]
  exact h
theorem app_set {L1 L2 cs cs' vs : List Value} {j : Nat} (hj : j + vs.length ≤ cs.length) (h : cs.take j ++ vs ++ cs.drop (j + vs.length) = cs') :
    (L1 ++ cs ++ L2).take (L1.length + j) ++ vs ++ (L1 ++ cs ++ L2).drop (L1.length + j + vs.length) = L1 ++ cs' ++ L2 := by
  subst h
  have e1 : (L1 ++ cs ++ L2).take (L1.length + j) = L1 ++ cs.take j := by
    rw [List.append_assoc, List.take_length_add_append, List.take_append_of_le_length (by omega)]
  have e2 : (L1 ++ cs ++ L2).drop (L1.length + j + vs.length) = cs.drop (j + vs.length) ++ L2 := by
    rw [Nat.add_assoc, List.append_assoc, List.drop_length_add_append, List.drop_append_of_le_length (by omega)]
  rw [e1, e2]
  simp
theorem app_fit {L1 L2 cs : List Value} {j m : Nat} (h : j + m ≤ cs.length) : Nat.ble (L1.length + j + m) (L1 ++ cs ++ L2).length = true := by
  rw [Nat.ble_eq]
  simp
  omega
end
end Go.Tc
namespace Go.Tc
open Go Go.RowKit

/-- The jump that a round has left, by its number; 0: none. -/
def jmp (js : List Code) (k : Int) : Option Code := match k with
  | .ofNat (m + 1) => js[m]?
  | _ => none
def exOf : Option Code → Option Exit
  | none => some .normal
  | some .ret => some .ret
  | some (.exit id) => some (.exit id)
  | _ => none
/-- What a loop's record says. -/
structure Lp where
  fn : FuncId
  tm : Array Value
  ps : Array Tmp
  assign : Code
  body : Code
  D : Nat
def Lp.rcd (L : Lp) (st : LoopState) (pe : Option Code) : Loop := { state := st, pending := pe, fn := L.fn, tmps := L.tm, params := L.ps, assign := L.assign, body := L.body, defers := L.D }
def stOf (j : Option Code) : LoopState := if j.isNone then .ready else .done
theorem stOf_ne (j : Option Code) : stOf j ≠ .busy := by cases j <;> simp [stOf]
/-- The record, between two rounds. -/
def lpF (l : Nat) (L : Lp) (js : List Code) (k : Int) : Fact := .inv [l] (fun w => w.heap[l]? = some (.loop (L.rcd (stOf (jmp js k)) (jmp js k))))
/-- The record, in a round. -/
def lbF (l : Nat) (L : Lp) : Fact := .inv [l] (fun w => w.heap[l]? = some (.loop (L.rcd .busy none)))
/-- The block for the rounds' deferred calls. -/
def dfF (D : Nat) : Fact := .inv [D] (fun w => w.heap[D]? = some (.deferred (some [])))
def mkD (D : Nat) : Deferred := { target := .collected D, args := #[] }
structure LpOk (n : Fr) (ρ : Env) (ps : Array Tmp) (assign body : Code) (L : Lp) : Prop where
  e1 : L.ps = ps
  e2 : L.assign = assign
  e3 : L.body = body
  sat : Sat ⟨n.n, [], none⟩ ρ { tmps := L.tm, defers := [] }

/-! ### A slice with its capacity told -/
theorem RdS.slice3 {α : Type} [Rep α] {P : Program} {w : World} {A : Nat → Prop} {t e : TypeId} {ag : Bool} {v : Value} {xs ys : List α} {lo : Option Value} {l h : Int} (ht : P.underlying t = some (.slice e)) (he : tinf P e = some (Rep.sz α, ag)) (hr : RdS A w v xs)
    (hlo : lo = none ∧ l = 0 ∨ lo = some (.int .i64 l)) (hy : slc xs l h = some ys) :
    ∃ v', (Instr.sliceAt t v lo (some (.int .i64 h)) (some (.int .i64 h))).run P w = .ok v' w ∧ RdS A w v' ys := by
  obtain ⟨h0, h1, h2, rfl⟩ := slc_eq hy
  rcases hr with ⟨rfl, ad, cap, rfl, hn, hcm⟩ | ⟨b, off, cap, cells, rfl, g1, g2, g3, g4, g5, g6⟩
  · simp at h2
    have hl : l = 0 := by omega
    have hh : h = 0 := by omega
    subst hl hh
    refine ⟨.slice ad 0 0, ?_, .inl ⟨by simp, ad, 0, rfl, fun _ => rfl, Nat.zero_le _⟩⟩
    rcases hlo with ⟨rfl, _⟩ | rfl <;>
      simp [Instr.sliceAt, Instr.slice, run_underlying ht, Instr.sliceBounds, Instr.sliceBound, asIntOf, tinf_size he]
  · have hrun : (Instr.sliceAt t (.slice (some ⟨b, off, none⟩) xs.length cap) lo (some (.int .i64 h)) (some (.int .i64 h))).run P w = .ok (.slice (if h.toNat = l.toNat then some ⟨b, off, none⟩ else some ⟨b, off + l.toNat * Rep.sz α, none⟩) (h.toNat - l.toNat) (h.toNat - l.toNat)) w := by
      have hb1 : 0 ≤ l ∧ l ≤ (h.toNat : Int) := ⟨h0, by omega⟩
      have hb2 : 0 ≤ h ∧ h ≤ (cap : Int) := ⟨by omega, by omega⟩
      have hb3 : 0 ≤ h ∧ h ≤ (h.toNat : Int) := ⟨by omega, by omega⟩
      have hm : max h 0 = h := by omega
      rcases hlo with ⟨rfl, rfl⟩ | rfl <;>
        simp [Instr.sliceAt, Instr.slice, run_underlying ht, Instr.sliceBounds, Instr.sliceBound, asIntOf, tinf_size he, Addr.add_lit, hb1, hb2, hb3, hm, h1]
    refine ⟨_, hrun, ?_⟩
    have hlen : ((xs.take h.toNat).drop l.toNat).length = h.toNat - l.toNat := by simp; omega
    refine .inr ⟨b, if h.toNat = l.toNat then off else off + l.toNat * Rep.sz α, h.toNat - l.toNat, (cells.take (h.toNat * Rep.sz α)).drop (l.toNat * Rep.sz α), ?_, g1, g2, ?_, ?_, ?_, RdL.drop _ _ _ (RdL.take _ _ _ g6)⟩
    · rw [hlen]; split <;> rfl
    · rw [hlen]; omega
    · omega
    · intro j u hj
      have hlt := (List.getElem?_eq_some_iff.1 hj).1
      simp at hlt
      by_cases hc : h.toNat = l.toNat
      · exfalso
        have := Nat.mul_le_mul_right (Rep.sz α) (Nat.le_of_eq hc)
        omega
      · rw [if_neg hc, Nat.add_assoc]
        refine g5 _ _ ?_
        rw [List.getElem?_drop, List.getElem?_take] at hj
        split at hj
        · exact hj
        · simp at hj

section
variable {R : Type} {P : Program} {n nc : Fr} {A : Nat → Prop} {w0 w w' : World} {Q : R → Exit → Act → World → Prop} {ρ ρ' ρc : Env} {Γ Γ' : Ctx} {E : Option R}
variable {d : Option Nat} {ty : TypeId} {pos : String} {after : Array Edge} {g : Option (Nat × Bool)}

theorem SH.inv_get {B : List Nat} {I : World → Prop} (h : SH A w0 w Γ) (i : Nat) (hi : Γ[i]? = some (.inv B I)) : I w := h.get i hi w (fun _ _ => rfl)
/-- One block that is owned by an invariant turns. -/
theorem SH.inv_set {b : Nat} {I I' : World → Prop} {o : Obj} (h : SH A w0 w Γ) (i : Nat) (hi : Γ[i]? = some (.inv [b] I)) (hI : ∀ w', w'.heap[b]? = some o → I' w') :
    SH A w0 (w.putObj b o) (Γ.set i (.inv [b] I')) := by
  have hb : b ∈ Γ.owns := List.mem_flatMap.2 ⟨_, List.mem_of_getElem? hi, by simp [Fact.owns]⟩
  have hlt := (h.ge b hb).2
  have hg : Grow w (w.putObj b o) [b] := ⟨rfl, rfl, rfl, by simp, fun k _ hk => World.putObj_heap_other (by simpa using hk)⟩
  refine h.set hi hg (by simp [Fact.owns]) (fun c hc => ⟨.inl hc, ?_⟩) ?_
  · simp [Fact.owns] at hc
    subst hc
    simpa using hlt
  · intro w2 hw2
    refine hI w2 ?_
    rw [hw2 b (by simp)]
    exact World.putObj_heap_same hlt
theorem SH.inv_end {b : Nat} {I : World → Prop} {o : Obj} (h : SH A w0 w Γ) (i : Nat) (hi : Γ[i]? = some (.inv [b] I)) :
    SH A w0 (w.putObj b o) (Γ.set i (.pr True)) := by
  have hg : Grow w (w.putObj b o) [b] := ⟨rfl, rfl, rfl, by simp, fun k _ hk => World.putObj_heap_other (by simpa using hk)⟩
  exact h.set hi hg (by simp [Fact.owns]) (fun c hc => by simp [Fact.owns] at hc) trivial
theorem SH.inv_new {o : Obj} {I : World → Prop} (h : SH A w0 w Γ) (hI : ∀ w', w'.heap[w.heap.size]? = some o → I w') : SH A w0 (w.alloc o) (.inv [w.heap.size] I :: Γ) := by
  refine h.cons (Grow.alloc w o []) (by simp [Fact.owns]) (by simp [Fact.owns]) ?_
  intro w2 hw2
  refine hI w2 ?_
  rw [hw2 _ (by simp)]
  exact heap_alloc_new w o

/-- What goes on behind the statement. -/
def BehindF (n : Fr) (A : Nat → Prop) (w0 : World) (Q : R → Exit → Act → World → Prop) (ρ : Env) (l D : Nat) (L : Lp) (js : List Code) (K : R → Value → World → Prop) : Prop :=
  ∀ (k : Int) (e : Exit), exOf (jmp js k) = some e → ∀ (Γ' : Ctx) (E' : Option R) (i : Nat), Γ'[i]? = some (lpF l L js k) → N ⟨n.n, mkD D :: n.ds, none⟩ A w0 Q e ρ (Γ'.set i (.pr True)) E' → ∀ r, E' = some r → ∀ u w, SH A w0 w Γ' → K r u w
theorem J_rangef {g : Operand} {ps : Array Tmp} {assign body bodyI : Code} {gf nI : Nat} {fnI : Func} {lb : List Value} {ρI : Env} (js : List Code)
    (hg : ev ρ g = some (.func (.func gf) #[] lb.toArray)) (hf : ∀ args w, (callFunc gf args).run P w = .ok (.enter gf args) w)
    (hfn : P.funcs[gf]? = some fnI) (hb : fnI.body = some bodyI) (hn : fnI.ntmps = nI) (hl : Nat.ble (lb.length + 1) nI = true) (hρ : enum 1 lb = ρI)
    (h : ∀ (l D : Nat) (L : Lp) (K : R → Value → World → Prop), LpOk n ρ ps assign body L → BehindF n A w0 Q ρ l D L js K → J P ⟨nI, [], none⟩ A w0 bodyI (QInl P fnI K) ((0, .func (.yield l) #[] #[]) :: ρI) (lpF l L js 0 :: dfF D :: Γ) E)
    (ho : n.o = none := by rfl) : J P n A w0 (.rangeFunc g ps assign body) Q ρ Γ E := by
  intro r hr a w hs hh
  refine wpIn_rangeFunc fun fn _ => ?_
  obtain ⟨L, hLe⟩ : ∃ L : Lp, L = ⟨fn, a.tmps, ps, assign, body, w.heap.size⟩ := ⟨_, rfl⟩
  have hL : LpOk n ρ ps assign body L := by
    subst hLe
    exact ⟨rfl, rfl, rfl, ⟨hs.size, rfl, hs.get⟩⟩
  have h1 : SH A w0 (w.alloc (.deferred (some []))) (dfF w.heap.size :: Γ) := hh.inv_new fun _ h => h
  obtain ⟨W1, hW1⟩ : ∃ W1, (w.alloc (.deferred (some []))).alloc (.loop (L.rcd .ready none)) = W1 := ⟨_, rfl⟩
  have h2 : SH A w0 W1 (lpF (w.heap.size + 1) L js 0 :: dfF w.heap.size :: Γ) := by
    have := h1.inv_new (o := .loop (L.rcd .ready none)) (I := fun w' => w'.heap[w.heap.size + 1]? = some (.loop (L.rcd .ready none))) (fun w' h => by simpa using h)
    have e : (w.alloc (Obj.deferred (some []))).heap.size = w.heap.size + 1 := by simp
    rw [e] at this
    rw [← hW1]
    exact this
  refine ⟨w.heap.size + 1, [mkD w.heap.size], W1, { target := .fn (.func gf) lb.toArray, args := #[.func (.yield (w.heap.size + 1)) #[] #[]] }, W1, gf, #[.func (.yield (w.heap.size + 1)) #[] #[]] ++ lb.toArray, W1, ?_, ?_, fun _ _ => trivial, ?_, fun hd => by simp [Fx, Fence.wide] at hd, ?_⟩
  · rw [show (Fx n.o).round = none from ho, ← hW1, hLe]
    exact run_enterLoop_outer _ _ _ _ _
  · simp only [resolve, hs.eval hg]
    simp [go_sem]
  · simp [invoke, go_sem, hf]
  · have hc : Calls P gf (#[.func (.yield (w.heap.size + 1)) #[] #[]] ++ lb.toArray) W1
        (fun e w' => ∃ u, e = .returned u ∧ ∃ jump w₄, (Instr.endLoop (w.heap.size + 1)).run P w' = .ok jump w₄ ∧ (match jump with | none => Q r .normal { a with defers := mkD w.heap.size :: a.defers } w₄ | some c => c.wpIn (Fx n.o) 0 P (Q r) { a with defers := mkD w.heap.size :: a.defers } w₄)) := by
      refine calls_wp hfn hb ?_
      have hJ := h (w.heap.size + 1) w.heap.size L (fun r _ w' => ∃ jump w₄, (Instr.endLoop (w.heap.size + 1)).run P w' = .ok jump w₄ ∧ (match jump with | none => Q r .normal { a with defers := mkD w.heap.size :: a.defers } w₄ | some c => c.wpIn (Fx n.o) 0 P (Q r) { a with defers := mkD w.heap.size :: a.defers } w₄)) hL ?_
      · refine hJ r hr _ _ ⟨?_, rfl, ?_⟩ h2
        · simp [Nat.ble_eq] at hl
          simp [hn]; omega
        · intro t u ht
          have he : ((0, Value.func (.yield (w.heap.size + 1)) #[] #[]) :: ρI) = enum 0 (.func (.yield (w.heap.size + 1)) #[] #[] :: lb) := by rw [← hρ]; rfl
          rw [he] at ht
          obtain ⟨_, h2⟩ := enum_get _ 0 t u ht
          rw [Nat.sub_zero] at h2
          have hlt := (List.getElem?_eq_some_iff.1 h2).1
          simp [Nat.ble_eq] at hl
          simp only [List.length_cons] at hlt
          refine ⟨?_, show t < nI by omega⟩
          have e2 : (#[Value.func (.yield (w.heap.size + 1)) #[] #[]] ++ lb.toArray) = (.func (.yield (w.heap.size + 1)) #[] #[] :: lb).toArray := by simp
          rw [e2, Array.getD_eq_getD_getElem?, Array.getElem?_append_left (by simpa using hlt), List.getElem?_toArray, h2]
          rfl
      · intro k e he Γ' E' i hi hN r' hE u w' hw'
        have hl' : w'.heap[w.heap.size + 1]? = some (.loop (L.rcd (stOf (jmp js k)) (jmp js k))) := hw'.inv_get i hi
        have hrun := run_endLoop (P := P) hl' (stOf_ne _)
        refine ⟨_, _, hrun, ?_⟩
        have hs' : Sat ⟨n.n, mkD w.heap.size :: n.ds, none⟩ ρ { a with defers := mkD w.heap.size :: a.defers } := ⟨hs.size, by rw [hs.defers], hs.get⟩
        have hq := hN r' hE _ _ hs' (hw'.inv_end (o := .loop { L.rcd (stOf (jmp js k)) (jmp js k) with state := .exhausted }) i hi)
        show match jmp js k with | none => _ | some c => _
        cases hj : jmp js k with
        | none =>
          rw [hj] at he
          simp only [exOf, Option.some.injEq] at he
          subst he
          rw [hj] at hq
          exact hq
        | some c =>
          rw [hj] at he hq
          cases c <;> simp only [exOf, Option.some.injEq, reduceCtorEq] at he
          · subst he; exact wpIn_exit hq
          · subst he; exact wpIn_ret hq
    refine CallsIn.mono (calls_in n.o _ hc) ?_
    rintro e w' ⟨u, rfl, hu⟩
    exact hu
/-- The function that was ranged over has ended. -/
theorem N_inlF {fn : Func} {n2 : Fr} {ρ2 : Env} {l D : Nat} {L : Lp} {js : List Code} {K : R → Value → World → Prop} {e : Exit} (k : Int) (e' : Exit) (he : e = .ret ∨ e = .normal) (hK : BehindF n A w0 Q ρ l D L js K) (hj : exOf (jmp js k) = some e') (hres : fn.results = #[]) (i : Nat) (hi : Γ[i]? = some (lpF l L js k))
    (h : N ⟨n.n, mkD D :: n.ds, none⟩ A w0 Q e' ρ (Γ.set i (.pr True)) E) (hds : n2.ds = [] := by rfl) : N n2 A w0 (QInl P fn K) e ρ2 Γ E := by
  intro r hr a w hs hh
  have key : a.defers = [] ∧ ∃ u, (results fn a.tmps).run P w = .ok u w ∧ (∃ u', Ending.returned u = .returned u' ∧ K r u' w) := by
    refine ⟨hs.defers.trans hds, .tuple #[], ?_, _, rfl, hK k e' hj Γ E i hi h r hr _ w hh⟩
    rw [results_rv, hres]
    simp
  rcases he with rfl | rfl <;> exact leaves0 key.1 key.2
/-- Which jump is told by a number: one by one. -/
theorem N_which {e : Exit} {l : Nat} {L : Lp} {js : List Code} {k : Int} (i : Nat) (c : Int) (hi : Γ[i]? = some (lpF l L js k)) {E1 E2 : Option R}
    (h1 : decide (k = c) = true → N n A w0 Q e ρ (Γ.set i (lpF l L js c)) E1) (h2 : decide (k = c) = false → N n A w0 Q e ρ Γ E2) : N n A w0 Q e ρ Γ (cond (decide (k = c)) E1 E2) := by
  by_cases hk : k = c
  · subst hk
    have e1 : Γ.set i (lpF l L js k) = Γ := by
      apply List.ext_getElem?
      intro j
      rw [List.getElem?_set]
      by_cases hj : i = j
      · subst hj
        rw [if_pos rfl, if_pos (List.getElem?_eq_some_iff.1 hi).1, hi]
      · rw [if_neg hj]
    rw [e1] at h1
    rw [decide_eq_true rfl]
    exact h1 (decide_eq_true rfl)
  · rw [decide_eq_false hk]
    exact h2 (decide_eq_false hk)
theorem N_cond {e : Exit} {b : Bool} {E1 E2 : Option R} (h1 : b = true → N n A w0 Q e ρ Γ E1) (h2 : b = false → N n A w0 Q e ρ Γ E2) : N n A w0 Q e ρ Γ (cond b E1 E2) := by
  cases b with
  | true => exact h1 rfl
  | false => exact h2 rfl

/-! ### A call of yield -/
theorem operIn_map {F : Fence} {m : Nat} {o : Oper} {a : Act} {w : World} {K K' : Act → World → Prop} {Q Q' : Exit → Act → World → Prop} (hK : ∀ a w, K a w → K' a w) (hq : ∀ c a w, Q (.panic c) a w → Q' (.panic c) a w) (hO : LetsOut Q → LetsOut Q')
    (h : o.wpIn F m P a w K Q) : o.wpIn F m P a w K' Q' := by
  refine ⟨h.1, ?_⟩
  have h := h.2
  generalize (o.semAt F.round a.eval).run P w = x at h
  cases x with
  | ok n w' =>
    cases n <;> simp only [Oper.uponIn] at h ⊢ <;>
      first
        | exact hK _ _ h
        | exact ⟨h.1, CallsIn.mono h.2 (fun e w'' he => by cases e <;> first | exact hK _ _ he | exact hq _ _ _ he | exact hO he)⟩
        | exact ⟨h.1, RowsIn.mono h.2 (fun _ _ he => hK _ _ he)⟩
        | exact ⟨h.1, RoundIn.mono h.2 (fun e w'' he => by cases e <;> first | exact hK _ _ he | exact hq _ _ _ he | exact hO he)⟩
  | halt x w' => cases x <;> simp only [Oper.uponIn] at h ⊢ <;> first | exact h | exact hq _ _ _ h
/-- The operations ahead of a call of yield; behind it: the rest. -/
def QY (P : Program) (o : Option Nat) (ops : Array Oper) (rest : List Oper) (Q : R → Exit → Act → World → Prop) : R → Exit → Act → World → Prop := fun r e a w => match e with
  | .normal => wpListIn (Fx o) 0 P ops (Q r) rest a w
  | _ => False
theorem listIn_app {F : Fence} {m : Nat} {ops : Array Oper} {Q Q' : Exit → Act → World → Prop} {rest : List Oper} (hn : ∀ a w, Q .normal a w → wpListIn F m P ops Q' rest a w) (hq : ∀ c a w, ¬ Q (.panic c) a w) (hO : ¬ LetsOut Q) : ∀ (l : List Oper) (a : Act) (w : World), wpListIn F m P ops Q l a w → wpListIn F m P ops Q' (l ++ rest) a w
  | [], _, _, h => hn _ _ h
  | o :: l, a, w, h => by
    rw [List.cons_append]
    unfold wpListIn at h ⊢
    split
    · rename_i hw
      rw [if_pos hw] at h
      exact operIn_map (fun a w h => listIn_app hn hq hO l a w h) (fun c a w h => absurd h (hq c a w)) (fun h => absurd h hO) h
    · rename_i hw
      rw [if_neg hw] at h
      exact ⟨h.1, listIn_app hn hq hO l _ w h.2⟩
theorem J_regionY {id : Nat} {l0 : List Oper} (k : Nat) (h : JL P n A w0 l0.toArray (l0.take k) (QY P n.o l0.toArray (l0.drop k) Q) ρ Γ E) (ho : n.o = none := by rfl) : J P n A w0 (.region id l0.toArray false) Q ρ Γ E := by
  intro r hr a w hs hh
  refine wpIn_region_lit ?_
  have h1 := list_in (r := n.o) (noP_out _) (.inl ho) a w (h r hr a w hs hh)
  have h2 := listIn_app (Q' := Q r) (rest := l0.drop k) (fun a w h => h) (fun _ _ _ h => h) (noP_out _) _ a w h1
  rwa [List.take_append_drop] at h2
def BehindY (P : Program) (n : Fr) (A : Nat → Prop) (w0 : World) (ops : Array Oper) (rest : List Oper) (Q : R → Exit → Act → World → Prop) (d : Nat) (ρ : Env) (K : R → Value → World → Prop) : Prop :=
  ∀ u Γ' E', JL P n A w0 ops rest Q ((d, u) :: ρ) Γ' E' → ∀ r, E' = some r → ∀ w, SH A w0 w Γ' → K r u w
/-- The assignment to the loop's variables; behind it the round begins. -/
def QAs (P : Program) (l : Nat) (body : Code) (K : R → Value → World → Prop) : R → Exit → Act → World → Prop := fun r e a w =>
  e = .normal ∧ ∃ w2, (Instr.beginRound l).run P w = .ok () w2 ∧ body.wpIn (Fx (some l)) 0 P (roundPost P l (fun e w => ∃ u, e = .returned u ∧ K r u w)) a w2
def QRd (P : Program) (l : Nat) (K : R → Value → World → Prop) : R → Exit → Act → World → Prop := fun r => roundPost P l (fun e w => ∃ u, e = .returned u ∧ K r u w)
def bindE : List Tmp → List Value → Env → Env
  | p :: ps, v :: vs, ρ => bindE ps vs ((p, v) :: ρ)
  | _, _, ρ => ρ
theorem sat_bind : ∀ (ps : List Tmp) (vs : List Value) {n : Fr} {ρ : Env} {tm : Array Value}, (ps.all fun p => Nat.blt p n.n) = true → Sat n ρ { tmps := tm, defers := [] } → Sat n (bindE ps vs ρ) { tmps := (ps.zip vs).foldl (fun t (p, v) => t.setIfInBounds p v) tm, defers := [] }
  | [], _, _, _, _, _, h => by simpa [bindE] using h
  | p :: ps, [], _, _, _, _, h => by simpa [bindE] using h
  | p :: ps, v :: vs, n, ρ, tm, hp, h => by
    simp only [List.all_cons, Bool.and_eq_true, Nat.blt_eq] at hp
    rw [bindE, List.zip_cons_cons, List.foldl_cons]
    refine sat_bind ps vs (by simpa [Nat.blt_eq] using hp.2) ?_
    have := h.put (v := v) hp.1
    simpa [Act.put] using this
theorem N_yield {l0 rest : List Oper} {k d l : Nat} {o : Operand} {args : List Operand} {ats : Array TypeId} {vs : List Value} {L : Lp} {js : List Code} {ps : List Tmp} {assign body : Code} {ρr : Env}
    (hdrop : l0.drop k = ⟨some d, .call ⟨.value o, args.toArray, ats⟩, ty, pos, after, g⟩ :: rest) (hw : Wants n ρ l0.toArray ⟨some d, .call ⟨.value o, args.toArray, ats⟩, ty, pos, after, g⟩) (hd : Nat.blt d n.n = true)
    (hy : ev ρ o = some (.func (.yield l) #[] #[])) (hargs : evL ρ args = some vs) (i : Nat) (hi : Γ[i]? = some (lpF l L js 0)) (hL : LpOk nc ρc ps.toArray assign body L) (hlen : Nat.beq vs.length ps.length = true) (hps : (ps.all fun p => Nat.blt p nc.n) = true) (hρ : bindE ps vs ρc = ρr)
    (h : ∀ K : R → Value → World → Prop, BehindY P n A w0 l0.toArray rest Q d ρ K → J P ⟨nc.n, [], some l⟩ A w0 assign (QAs P l body K) ρr Γ E) (ho : n.o = none := by rfl) : N n A w0 (QY P n.o l0.toArray (l0.drop k) Q) .normal ρ Γ E := by
  intro r hr a w hs hh
  show wpListIn (Fx n.o) 0 P l0.toArray (Q r) (l0.drop k) a w
  rw [hdrop]
  refine wpListIn_step fun K hK => ?_
  rw [hw a hs]
  simp only [if_true]
  refine ⟨fun _ _ => trivial, ?_⟩
  have hl : w.heap[l]? = some (.loop (L.rcd .ready none)) := hh.inv_get i hi
  have hln : vs.length = ps.length := Nat.eq_of_beq_eq_true hlen
  have hrun : (execOp a.eval ⟨some d, .call ⟨.value o, args.toArray, ats⟩, ty, pos, after, g⟩).run P w = .ok (.round l L.fn ((ps.zip vs).foldl (fun t (p, v) => t.setIfInBounds p v) L.tm) assign body) w := by
    have hyr := run_yield (P := P) (args := vs.toArray) hl (by show vs.toArray.size = L.ps.size; rw [hL.e1]; simp [hln])
    have e3 : (L.rcd .ready none).params = ps.toArray := hL.e1
    have e4 : (L.rcd .ready none).tmps = L.tm := rfl
    have e5 : (L.rcd .ready none).assign = assign := hL.e2
    have e6 : (L.rcd .ready none).body = body := hL.e3
    rw [e3, e4, e5, e6] at hyr
    have e7 : (ps.toArray.zip vs.toArray).foldl (fun (tmps : Array Value) (x : Tmp × Value) => match x with | (t, a) => tmps.setIfInBounds t a) L.tm = (ps.zip vs).foldl (fun t (p, v) => t.setIfInBounds p v) L.tm := by simp
    rw [e7] at hyr
    simp [execOp, resolve, Deferred.ofValue, invoke, hs.eval hy, hs.evalL hargs, hyr]
    rfl
  have hsem : (Oper.semAt (Fx n.o).round a.eval ⟨some d, .call ⟨.value o, args.toArray, ats⟩, ty, pos, after, g⟩) = execOp a.eval ⟨some d, .call ⟨.value o, args.toArray, ats⟩, ty, pos, after, g⟩ := Oper.semAt_eq _ _ _ (fun c e => by cases e)
  rw [hsem, hrun, Oper.uponIn_round]
  refine ⟨fun hdp => by simp [Fx, Fence.wide] at hdp, ?_⟩
  have hJ := h (fun r u w' => wpListIn (Fx n.o) 0 P l0.toArray (Q r) rest (a.put (some d) u) w') (fun u Γ' E' hJL r hE w hw' =>
    listIn_mono (fun _ _ _ => noP_to) _ _ _ (list_in (noP_out _) (.inl ho) _ _ (hJL r hE _ w (hs.put (by simpa [Nat.blt_eq] using hd)) hw')))
  have hR : RoundIn (Fx none) 0 P l L.fn ((ps.zip vs).foldl (fun t (p, v) => t.setIfInBounds p v) L.tm) assign body w (fun e w => ∃ u, e = .returned u ∧ wpListIn (Fx n.o) 0 P l0.toArray (Q r) rest (a.put (some d) u) w) := by
    refine roundIn_of_wpIn trivial ?_
    have hs2 : Sat ⟨nc.n, [], some l⟩ ρr { tmps := (ps.zip vs).foldl (fun t (p, v) => t.setIfInBounds p v) L.tm, defers := [] } := by
      rw [← hρ]
      have := sat_bind ps vs (n := ⟨nc.n, [], none⟩) hps hL.sat
      exact ⟨this.size, this.defers, this.get⟩
    refine Code.wpIn_mono ?_ (hJ r hr _ w hs2 hh)
    rintro e a2 w2 ⟨rfl, h3⟩
    exact h3
  rw [show Fx n.o = Fx none by rw [ho]] at *
  refine RoundIn.mono hR ?_
  rintro e w2 ⟨u, rfl, hu⟩
  exact hK _ _ hu
theorem N_begin {nr : Fr} {l : Nat} {L : Lp} {js : List Code} {body : Code} {K : R → Value → World → Prop} (i : Nat) (hi : Γ[i]? = some (lpF l L js 0)) (ho : nr.o = some l)
    (h : J P nr A w0 body (QRd P l K) ρ (Γ.set i (lbF l L)) E) : N nr A w0 (QAs P l body K) .normal ρ Γ E := by
  intro r hr a w hs hh
  have hl : w.heap[l]? = some (.loop (L.rcd .ready none)) := hh.inv_get i hi
  refine ⟨rfl, _, run_beginRound hl rfl, ?_⟩
  have := h r hr a _ hs (hh.inv_set (o := .loop { L.rcd .ready none with state := .busy }) i hi (fun _ h => h))
  rw [ho] at this
  exact this
/-- The round ends. -/
theorem N_endRound {nr : Fr} {ops : Array Oper} {rest : List Oper} {d l : Nat} {L : Lp} {js : List Code} {K : R → Value → World → Prop} {ρr : Env} {e : Exit} (k : Int) (b : Bool) (he : exOf (jmp js k) = some e) (hb : (jmp js k).isNone = b) (i : Nat) (hi : Γ[i]? = some (lbF l L)) (hK : BehindY P n A w0 ops rest Q d ρ K)
    (h : JL P n A w0 ops rest Q ((d, .bool b) :: ρ) (Γ.set i (lpF l L js k)) E) : N nr A w0 (QRd P l K) e ρr Γ E := by
  intro r hr a w hs hh
  have hl : w.heap[l]? = some (.loop (L.rcd .busy none)) := hh.inv_get i hi
  have fin : ∀ j, jmp js k = j → ∃ v w', (Instr.endRound l j).run P w = .ok v w' ∧ ∃ u, Ending.returned v = .returned u ∧ K r u w' := by
    rintro j rfl
    have hq : K r (.bool (jmp js k).isNone) (w.putObj l (.loop { L.rcd .busy none with state := if (jmp js k).isNone then .ready else .done, pending := jmp js k })) := by
      have h' := h
      rw [← hb] at h'
      exact hK _ _ E h' r hr _ (hh.inv_set i hi (fun w' h => h))
    exact ⟨_, _, run_endRound _ hl, _, rfl, hq⟩
  cases hj : jmp js k with
  | none =>
    rw [hj] at he
    simp only [exOf, Option.some.injEq] at he
    subst he
    exact fin none hj
  | some c =>
    rw [hj] at he
    cases c <;> simp only [exOf, Option.some.injEq, reduceCtorEq] at he
    · subst he; exact fin _ hj
    · subst he; exact fin _ hj
/-- A frame leaves: a mark is taken up. -/
theorem N_take {fn : Func} {X : R → Ending → World → Prop} {k D : Nat} {ds : List Deferred} {e : Exit} (i : Nat) (he : e = .ret ∨ e = .normal) (hi : Γ[i]? = some (dfF D))
    (h : N ⟨k, ds, none⟩ A w0 (fun r => bodyPostM (Fx none) 0 P fn (X r)) e ρ (Γ.set i (.pr True)) E) : N ⟨k, mkD D :: ds, none⟩ A w0 (fun r => bodyPostM (Fx none) 0 P fn (X r)) e ρ Γ E := by
  intro r hr a w hs hh
  have hd : w.heap[D]? = some (.deferred (some [])) := hh.inv_get i hi
  have hs' : Sat ⟨k, ds, none⟩ ρ { a with defers := ds } := ⟨hs.size, rfl, hs.get⟩
  have hq := h r hr _ _ hs' (hh.inv_end (o := .deferred none) i hi)
  have ha : a.defers = mkD D :: ds := hs.defers
  have key : LeavesInM (Fx none) 0 P fn a.tmps (X r) ds .returning (w.putObj D (.deferred none)) → LeavesInM (Fx none) 0 P fn a.tmps (X r) a.defers .returning w := by
    intro hx
    rw [ha]
    exact ⟨by simp, .inl ⟨D, _, rfl, run_takeDeferred hd, hx⟩⟩
  rcases he with rfl | rfl <;> exact key hq
theorem st_slice3 {α : Type} [Rep α] {x hi mx : Operand} {t e : TypeId} {ag : Bool} {v : Value} {xs ys : List α} {lo : Option Operand} {l h : Int} (i : Nat) (ht : P.underlying t = some (.slice e)) (he : tinf P e = some (Rep.sz α, ag)) (hx : ev ρ x = some v) (hlo : bound ρ lo 0 = some l) (hhi : ev ρ hi = some (.int .i64 h)) (hmx : ev ρ mx = some (.int .i64 h))
    (hi' : Γ[i]? = some (.rd v xs)) (hy : slc xs l h = some ys) : St P n A w0 ρ Γ ⟨d, .slice t x lo (some hi) (some mx), ty, pos, after, g⟩ (fun v' : Value => v') (fun v' => .rd v' ys :: Γ) [] := by
  intro a w hs hh
  obtain ⟨v', hrun, hr⟩ := RdS.slice3 (P := P) ht he (Rd.sl (hh.get i hi')) (bound_val hs hlo) hy
  refine ⟨v', w, ?_, hh.cons_rd (.mk_sl hr), Grow.refl w _, .plain rfl⟩
  simp only [execOp, hs.eval hx, hs.eval hhi, hs.eval hmx, Option.map_some]
  simp [hrun]
/-- A result in a cell. -/
theorem rv_cell1 {p : Nat} {t t' : TypeId} {b off : Nat} {cs : List Value} {v : Value} (i : Nat) (hp : ρ.get p = some (.pointer (some ⟨b, off, none⟩))) (hi : Γ[i]? = some (.bx b t' cs)) (ht : tinf P t = some (1, false)) (hc : cs[off]? = some v) : Rv P n A w0 ρ Γ (.cell p t) v := fun a w hs hh => by
  have h1 := (hs.get p _ hp).1
  have hb := hh.get i hi
  have hc2 := cell_of_bx hb hc
  simp only [rvSem, h1]
  simp [asAddr, loadVar, tinf_agg ht, run_load, hc2]
/-! ### A number inside an element of an own row -/
/-- A part that is a number, as it is read. -/
def SP {α : Type} [Rep α] (o : Nat) (y : α) (st : Int → α) : Prop :=
  ∀ A w c, Rep.rdc A w c y → o < c.length ∧ ∀ k, Rep.rdc A w (c.set o (.int .i64 k)) (st k)
theorem RdL.setp {α : Type} [Rep α] {A : Nat → Prop} {w : World} {o : Nat} {y : α} {st : Int → α} (hS : SP o y st) (z : Int) : ∀ (xs : List α) (cs : List Value) (k : Nat), xs[k]? = some y → RdL A w cs xs →
    k * Rep.sz α + o < cs.length ∧ RdL A w (cs.set (k * Rep.sz α + o) (.int .i64 z)) (xs.set k (st z))
  | [], _, k, hk, _ => by simp at hk
  | x :: r, _, 0, hk, ⟨c1, c2, e, h1, h2⟩ => by
    simp at hk
    subst hk e
    obtain ⟨hl, hs⟩ := hS _ _ _ h1
    refine ⟨by simp; omega, c1.set o (.int .i64 z), c2, ?_, hs z, h2⟩
    rw [Nat.zero_mul, Nat.zero_add, List.set_append_left _ _ hl]
  | x :: r, _, k + 1, hk, ⟨c1, c2, e, h1, h2⟩ => by
    subst e
    have l1 := Rep.len h1
    obtain ⟨hl, hs⟩ := RdL.setp hS z r c2 k (by simpa using hk) h2
    have e1 : (k + 1) * Rep.sz α + o = c1.length + (k * Rep.sz α + o) := by rw [Nat.add_mul, l1]; omega
    refine ⟨by rw [e1]; simp; omega, c1, _, ?_, h1, hs⟩
    rw [e1, List.set_append_right _ _ (by omega), Nat.add_sub_cancel_left]
theorem sk_store_ow_part {α : Type} [Rep α] {x y : Operand} {t e : TypeId} {b cap len o off : Nat} {xs : List α} {j : Int} {y0 : α} {st : Int → α} {z : Int} (i : Nat) (hS : SP o y0 st) (ht : tinf P t = some (1, false)) (hx : ev ρ x = some (.pointer (some ⟨b, off, none⟩))) (hoff : off = j.toNat * Rep.sz α + o) (hy : ev ρ y = some (.int .i64 z))
    (hi : Γ[i]? = some (.ow e (.slice (some ⟨b, 0, none⟩) len cap) xs)) (hj : idx xs j = some y0) :
    Sk P n A w0 ρ Γ ⟨d, .store t x y, ty, pos, after, g⟩ (Γ.set i (.ow e (.slice (some ⟨b, 0, none⟩) len cap) (xs.set j.toNat (st z)))) [b] := by
  intro a w hs hh
  obtain ⟨h0, h1, h2⟩ := idx_eq hj
  obtain ⟨cells, ⟨hl0, hown⟩, hr⟩ := hh.get i hi
  rcases hown with ⟨h, _⟩ | ⟨gg, cap', cur, hv, _, hg, hnc, hcm, hcs, htake⟩
  · simp at h
  simp at hv
  obtain ⟨rfl, rfl, rfl⟩ := hv
  subst hoff
  obtain ⟨hcl, hset⟩ := RdL.setp hS z xs cells j.toNat h2 hr
  have hcl2 : j.toNat * Rep.sz α + o < cur.size := by
    rw [← htake, List.length_take] at hcl
    rw [← Array.length_toList]
    omega
  have hcl3 : j.toNat * Rep.sz α + o < xs.length * Rep.sz α := by
    rw [← htake, List.length_take] at hcl
    omega
  have hst := run_storeCells_at P b (j.toNat * Rep.sz α + o) e [.int .i64 z] 0 cur w hg (by simp; omega) (by simp [Value.oneCell'])
  simp only [Nat.add_zero] at hst
  have hcut : (cur.toList.take (j.toNat * Rep.sz α + o) ++ [.int .i64 z] ++ cur.toList.drop (j.toNat * Rep.sz α + o + [(.int .i64 z : Value)].length)) = cur.toList.set (j.toNat * Rep.sz α + o) (.int .i64 z) := by
    rw [List.set_eq_take_append_cons_drop, if_pos (by simpa using hcl2)]
    simp
  rw [hcut] at hst
  refine ⟨w.setRow b (cur.toList.set (j.toNat * Rep.sz α + o) (.int .i64 z)).toArray, ?_, ?_, ⟨rfl, rfl, rfl, by simp, fun k _ hk => setRow_other w b k _ (fun e => hk (by simp [e]))⟩, .set hi (fun c hc => .inl hc)⟩
  · simp only [execOp, hs.eval hx, hs.eval hy, Sem.run_bind, Instr.storeAt, Instr.sureAddr, storeVar, Sem.run_pure, Result.andThen_ok, tinf_size ht]
    simp [Value.cells, hst]
  · have hA : ∀ k, k < w.heap.size → ¬ (A k ∨ k ∈ Γ.owns) → (w.setRow b (cur.toList.set (j.toNat * Rep.sz α + o) (.int .i64 z)).toArray).heap[k]? = w.heap[k]? ∧ ¬ (A k ∨ k ∈ Ctx.owns (Γ.set i (.ow e (.slice (some ⟨b, 0, none⟩) xs.length cap) (xs.set j.toNat (st z))))) := by
      intro k hk hna
      obtain ⟨l1, l2, e1, e2⟩ := owns_set (f' := .ow e (.slice (some ⟨b, 0, none⟩) xs.length cap) (xs.set j.toNat (st z))) hi
      have e3 : Ctx.owns (Γ.set i (.ow e (.slice (some ⟨b, 0, none⟩) xs.length cap) (xs.set j.toNat (st z)))) = Γ.owns := by rw [e1, e2]; rfl
      rw [e3]
      refine ⟨setRow_other w b k _ ?_, hna⟩
      intro hkb
      apply hna
      right; rw [e1]; simp [Fact.owns, Value.ownBlock, hkb]
    refine hh.set hi ⟨rfl, rfl, rfl, by simp, fun k _ hk => setRow_other w b k _ (fun e => hk (by simp [Fact.owns, Value.ownBlock, e]))⟩ (by simp [Fact.owns, Value.ownBlock]) (fun c hc => ?_) ?_
    · simp [Fact.owns, Value.ownBlock] at hc
      subst hc
      exact ⟨.inl (by simp [Fact.owns, Value.ownBlock]), by simpa using lt_of_some hg⟩
    · refine ⟨cells.set (j.toNat * Rep.sz α + o) (.int .i64 z), ?_, RdL.frame hA _ _ hset⟩
      refine ⟨by simpa using hl0, .inr ⟨b, cap, _, ?_, Nat.zero_le _, setRow_heap w b cur _ e _ hg, ?_, hcm, ?_, ?_⟩⟩
      · simp
      · simpa using hnc
      · simpa using hcs
      · rw [List.length_set, ← htake, List.take_set]
end
end Go.Tc
namespace Go.Tc
open Go Go.RowKit

/-- The byte at a place. -/
def bidx (s : ByteArray) (i : Int) : Option Int := if 0 ≤ i then (s[i.toNat]?).map fun b => (b.toNat : Int) else none
/-- A part of a text. -/
def bslc (s : ByteArray) (lo hi : Int) : Option ByteArray := if 0 ≤ lo ∧ lo ≤ hi ∧ hi ≤ s.size then some (s.extract lo.toNat hi.toNat) else none
section
variable {R : Type} {P : Program} {n : Fr} {A : Nat → Prop} {w0 w : World} {Q : R → Exit → Act → World → Prop} {ρ ρ' : Env} {Γ Γ' : Ctx} {E : Option R}
variable {d : Option Nat} {ty : TypeId} {pos : String} {after : Array Edge} {g : Option (Nat × Bool)}
theorem ex_index_str {x ix : Operand} {t : TypeId} {s : ByteArray} {k : IntKind} {j y : Int} (ht : P.underlying t = some .string) (hx : ev ρ x = some (.string s)) (hix : ev ρ ix = some (.int k j)) (hy : bidx s j = some y) :
    Ex P n A w0 ρ Γ ⟨d, .index t x ix, ty, pos, after, g⟩ (.int .u8 y) := by
  intro a w hs hh
  unfold bidx at hy
  split at hy
  · rename_i h0
    cases hb : s[j.toNat]? with
    | none => rw [hb] at hy; cases hy
    | some b =>
      rw [hb] at hy
      simp only [Option.map_some, Option.some.injEq] at hy
      subst hy
      simp [execOp, hs.eval hx, hs.eval hix, Instr.index, asIntOf, run_underlying ht, h0, hb]
  · cases hy
theorem ex_slice_str {x : Operand} {t : TypeId} {s r : ByteArray} {lo hi : Option Operand} {l h : Int} (ht : P.underlying t = some .string) (hx : ev ρ x = some (.string s)) (hlo : bound ρ lo 0 = some l) (hhi : bound ρ hi (s.size : Int) = some h) (hy : bslc s l h = some r) :
    Ex P n A w0 ρ Γ ⟨d, .slice t x lo hi none, ty, pos, after, g⟩ (.string r) := by
  intro a w hs hh
  unfold bslc at hy
  split at hy
  · rename_i hk
    obtain ⟨h0, h1, h2⟩ := hk
    rw [← Option.some.inj hy]
    have hb1 : 0 ≤ l ∧ l ≤ (h.toNat : Int) := ⟨h0, by omega⟩
    have hb2 : 0 ≤ h ∧ h ≤ (s.size : Int) := ⟨by omega, h2⟩
    have hb3 : 0 ≤ l ∧ l ≤ (s.size : Int) := ⟨h0, by omega⟩
    rcases bound_val hs hlo with ⟨e1, rfl⟩ | e1 <;> rcases bound_val hs hhi with ⟨e2, rfl⟩ | e2 <;>
      simp [execOp, hs.eval hx, e1, e2, Instr.sliceAt, Instr.slice, run_underlying ht, Instr.sliceBounds, Instr.sliceBound, asIntOf, hb1, hb2, hb3]
    intro hc
    exact absurd hc (by omega)
  · cases hy
end
end Go.Tc
namespace Go.Tc
open Go Go.RowKit

/-- What is known of a function value that is asked while the own row v turns. -/
def DClo (P : Program) (w : World) (O : List Nat) (e : TypeId) (v cv : Value) (φ : Vc → Option Bool) : Prop :=
  ∃ (g : FuncId) (caps : List Value), cv = .func (.func g) #[] caps.toArray ∧ (∀ args w, (callFunc g args).run P w = .ok (.enter g args) w) ∧
    ∀ (w' : World) (ys : List Vc), Grow w w' O → Ow (fun k => k ∈ O) w' e v ys → ∀ (x : Vc) (r : Bool), φ x = some r → Calls P g (x.v :: caps).toArray w' fun en w'' => en = .returned (.bool r) ∧ Grow w' w'' []
/-- What such a function does. -/
def DelCon (P : Program) (f : FuncId) (e : TypeId) (F : List Vc → (Vc → Option Bool) → Option (List Vc)) : Prop :=
  ∀ (w : World) (v cv : Value) (xs ys : List Vc) (φ : Vc → Option Bool), DClo P w v.ownBlock.toList e v cv φ → Ow (fun k => k ∈ v.ownBlock.toList) w e v xs → (∀ b ∈ v.ownBlock.toList, b < w.heap.size) → F xs φ = some ys →
    Calls P f #[v, cv] w fun r w' => ∃ v', r = .returned v' ∧ Ow (fun k => k ∈ v'.ownBlock.toList) w' e v' ys ∧ Grow w w' v.ownBlock.toList ∧ ∀ b ∈ v'.ownBlock.toList, (b ∈ v.ownBlock.toList ∨ w.heap.size ≤ b) ∧ b < w'.heap.size
def vz : Vc := ⟨.slice none 0 0, rfl⟩
def clrAt (xs : List Vc) (l : Int) : List Vc := xs.take l.toNat ++ List.replicate (xs.length - l.toNat) vz
/-- Elements struck out. -/
def del {α : Type} (φ : α → Option Bool) : List α → Option (List α)
  | [] => some []
  | x :: l => bnd (φ x) fun b => bnd (del φ l) fun r => some (cond b r (x :: r))
def delG {α : Type} (xs : List α) (φ : α → Option Bool) : Option (List α) := if xs.length ≤ 1099511627776 then del φ xs else none

section
variable {R : Type} {P : Program} {n : Fr} {A : Nat → Prop} {w0 w w1 w' : World} {Q : R → Exit → Act → World → Prop} {ρ ρ' : Env} {Γ Γ' : Ctx} {E : Option R}
variable {d : Option Nat} {ty : TypeId} {pos : String} {after : Array Edge} {g : Option (Nat × Bool)}
theorem JL_st0 {ops : Array Oper} {rest : List Oper} {op : Op} {G : Type} {v : G → Value} {Γ' : G → Ctx} (hw : Wants n ρ ops ⟨none, op, ty, pos, after, g⟩)
    {T : List Nat} (hx : St P n A w0 ρ Γ ⟨none, op, ty, pos, after, g⟩ v Γ' T) (h : ∀ x, JL P n A w0 ops rest Q ρ (Γ' x) E) : JL P n A w0 ops (⟨none, op, ty, pos, after, g⟩ :: rest) Q ρ Γ E := by
  intro r hr a w hs hh
  refine wpList_step fun K hK => ?_
  rw [hw a hs]
  simp only [if_true]
  obtain ⟨x, w', hrun, hh', _⟩ := hx a w hs hh
  unfold Oper.wp
  rw [hrun, Oper.upon_value]
  exact hK _ _ (h x r hr _ _ hs hh')
theorem JL_dcl {ops : Array Oper} {rs : List Oper} {d : Nat} {o a : Operand} {ats : Array TypeId} {cv v : Value} {φ : Vc → Option Bool} {x : Vc} {r : Bool} {O : List Nat} {e : TypeId} {ys : List Vc} (i j : Nat)
    (hw : Wants n ρ ops ⟨some d, .call ⟨.value o, #[a], ats⟩, ty, pos, after, g⟩) (hd : Nat.blt d n.n = true) (hC : DClo P w1 O e v cv φ) (ho : ev ρ o = some cv) (ha : ev ρ a = some x.v)
    (hi : Γ[i]? = some (.ow e v ys)) (hj : Γ[j]? = some (rest w1 O)) (hO : Ctx.owns Γ = O) (hr : φ x = some r)
    (h : JL P n nowhere (bare w1) ops rs Q ((d, .bool r) :: ρ) Γ E) : JL P n nowhere (bare w1) ops (⟨some d, .call ⟨.value o, #[a], ats⟩, ty, pos, after, g⟩ :: rs) Q ρ Γ E := by
  obtain ⟨f, caps, rfl, hf, hcall⟩ := hC
  intro r' hr' a' w hs hh
  refine wpList_step fun K hK => ?_
  rw [hw a' hs]
  simp only [if_true]
  unfold Oper.wp
  have hrun : (execOp a'.eval ⟨some d, .call ⟨.value o, #[a], ats⟩, ty, pos, after, g⟩).run P w = .ok (.enter f (x.v :: caps).toArray) w := by
    have := run_callv (args := [a]) (vs := [x.v]) (d := d) (ty := ty) (pos := pos) (after := after) (g := g) (ats := ats) (w := w) hs hf ho (by simp [evL, ha])
    exact this
  rw [hrun, Oper.upon_enter]
  have h3 := hh.get j hj
  have hg : Grow w1 w O := by
    rw [hO] at h3
    exact ⟨hh.below.os, hh.below.tape, hh.below.output, h3.1, fun k hk hb => (h3.2 k ⟨hk, hb⟩).2.2⟩
  obtain ⟨cells, h1, h2⟩ := hh.get i hi
  rw [hO] at h2
  refine (hcall w ys hg ⟨cells, h1, RdL.frame (fun k _ hk => ⟨rfl, fun hk' => hk (.inr hk')⟩) _ _ h2⟩ x r hr).mono ?_
  rintro en w2 ⟨rfl, hg2⟩
  exact hK _ _ (h r' hr' _ _ (hs.put (by simpa [Nat.blt_eq] using hd)) (hh.grow hg2))
theorem del_start {w : World} {e : TypeId} {v : Value} {xs : List Vc} (h : Ow (fun k => k ∈ v.ownBlock.toList) w e v xs) (hb : ∀ b ∈ v.ownBlock.toList, b < w.heap.size) : SH nowhere (bare w) w [.ow e v xs, rest w v.ownBlock.toList] := rev_start h hb
theorem del_end {w w' : World} {e : TypeId} {v' : Value} {O : List Nat} {xs : List Vc} (h : SH nowhere (bare w) w' [.ow e v' xs, rest w O]) : Ow (fun k => k ∈ v'.ownBlock.toList) w' e v' xs ∧ Grow w w' O ∧ ∀ b ∈ v'.ownBlock.toList, (b ∈ O ∨ w.heap.size ≤ b) ∧ b < w'.heap.size := by
  have ho : Ctx.owns [Fact.ow e v' xs, rest w O] = v'.ownBlock.toList := by simp [Ctx.owns, Fact.owns]
  obtain ⟨cells, h1, h2⟩ := h.get 0 rfl
  have h3 := h.get 1 rfl
  rw [ho] at h2 h3
  refine ⟨⟨cells, h1, RdL.frame (fun k _ hk => ⟨rfl, fun hk' => hk (.inr hk')⟩) _ _ h2⟩, ⟨h.below.os, h.below.tape, h.below.output, h3.1, fun k hk hb => (h3.2 k ⟨hk, hb⟩).2.2⟩, fun b hb => ?_⟩
  have hge := h.ge b (by rw [ho]; exact hb)
  refine ⟨?_, hge.2⟩
  by_cases hO : b ∈ O
  · exact .inl hO
  · by_cases hlt : b < w.heap.size
    · exact absurd (Or.inr hb) (h3.2 b ⟨hlt, hO⟩).1
    · exact .inr (by omega)
theorem st_clear_at {x : Operand} {t e : TypeId} {ag : Bool} {v : Value} {xs zs : List Vc} {l h : Int} (i : Nat) (ht : P.underlying t = some (.slice e)) (he : tinf P e = some (1, ag)) (hz : zinf P e = some (.slice none 0 0)) (hx : ev ρ x = some (subv (Rep.sz Vc) l.toNat h.toNat v)) (hi : Γ[i]? = some (.ow e v xs)) (hy : slc xs l h = some zs) (hh' : h = (xs.length : Int)) :
    St P n A w0 ρ Γ ⟨d, .call ⟨.builtin .clear, #[x], #[t]⟩, ty, pos, after, g⟩ (fun _ : Unit => .tuple #[]) (fun _ => Γ.set i (.ow e v (clrAt xs l))) v.ownBlock.toList := by
  intro a w hs hh
  obtain ⟨cells, hown, hr⟩ := hh.get i hi
  obtain ⟨z0, z1, z2, rfl⟩ := slc_eq hy
  have hsz : Rep.sz Vc = 1 := rfl
  have hlx := RdL.length _ _ hr
  rw [hsz, Nat.mul_one] at hlx
  have hON : OwnNew Γ (Γ.set i (.ow e v (clrAt xs l))) w := .set hi (fun c hc => .inl hc)
  have hexec : (execOp a.eval ⟨d, .call ⟨.builtin .clear, #[x], #[t]⟩, ty, pos, after, g⟩).run P w = ((Builtin.clear_ #[t] ty #[subv (Rep.sz Vc) l.toNat h.toNat v]).run P w).andThen fun r w' => .ok (.value r) w' := by
    simp [execOp, resolve, invoke, builtin, hs.eval hx]
  by_cases hm : h.toNat - l.toNat = 0
  · have hsame : clrAt xs l = xs := by
      unfold clrAt
      rw [show xs.length - l.toNat = 0 by omega, List.take_of_length_le (by omega), List.replicate_zero, List.append_nil]
    have hdv : ∃ dd dc, subv (Rep.sz Vc) l.toNat h.toNat v = .slice dd 0 dc := by
      obtain ⟨_, hown⟩ := hown
      rcases hown with ⟨rfl, _⟩ | ⟨gg, c, cur, rfl, _⟩ <;> exact ⟨_, _, by simp only [subv]; rw [hm]⟩
    obtain ⟨dd, dc, hd⟩ := hdv
    refine ⟨(), w, ?_, ?_, Grow.refl w _, hON⟩
    · rw [hexec, hd]
      cases dd <;> simp [Builtin.clear_, run_underlying ht]
    · rw [hsame, set_self hi]
      exact hh
  · obtain ⟨hl0, hown'⟩ := hown
    rcases hown' with ⟨rfl, hz0⟩ | ⟨gg, c, cur, rfl, _, hg, hnc', hcm, hcs, htake⟩
    · exfalso
      omega
    · have hcl : ¬ c = l.toNat := by omega
      have hdest : subv (Rep.sz Vc) l.toNat h.toNat (.slice (some ⟨gg, 0, none⟩) xs.length c) = .slice (some ⟨gg, l.toNat, none⟩) (h.toNat - l.toNat) (c - l.toNat) := by
        simp only [subv, if_neg hcl, Option.map_some]
        rw [Addr.add_lit, hsz, Nat.mul_one, Nat.zero_add]
      have hcsz : cur.size = c := by rw [hcs, hsz, Nat.mul_one]
      generalize hm' : h.toNat - l.toNat = m at *
      have hfit : l.toNat + 0 + (List.replicate m (Value.slice none 0 0)).length ≤ cur.size := by rw [List.length_replicate]; omega
      have hst := run_storeCells_at P gg l.toNat e (List.replicate m (Value.slice none 0 0)) 0 cur w hg hfit (by intro u hu; rw [List.eq_of_mem_replicate hu]; rfl)
      have hzc : (Builtin.zeroCells (Value.slice none 0 0).cells m).toList = List.replicate m (Value.slice none 0 0) := by
        simp [Builtin.zeroCells, Value.cells]
        apply List.ext_getElem
        · simp
        · intro i h1 h2
          simp [Nat.mod_one]
      obtain ⟨m', rfl⟩ : ∃ m', m = m' + 1 := ⟨m - 1, by omega⟩
      refine ⟨(), w.setRow gg (cur.toList.take l.toNat ++ List.replicate (m' + 1) (Value.slice none 0 0) ++ cur.toList.drop (l.toNat + (m' + 1))).toArray, ?_, ?_, ⟨rfl, rfl, rfl, by simp, fun k _ hk => setRow_other w gg k _ (fun e => hk (by simp [Value.ownBlock, e]))⟩, hON⟩
      · rw [hexec, hdest]
        simp only [Nat.add_zero, List.length_replicate] at hst
        simp [Builtin.clear_, run_underlying ht, run_zinf hz, hzc, hst]
      · have hOe : Ctx.owns (Γ.set i (.ow e (.slice (some ⟨gg, 0, none⟩) xs.length c) (clrAt xs l))) = Γ.owns := owns_set_eq hi rfl
        have hgA : gg ∈ Γ.owns := List.mem_flatMap.2 ⟨_, List.mem_of_getElem? hi, by simp [Fact.owns, Value.ownBlock]⟩
        refine hh.set hi ⟨rfl, rfl, rfl, by simp, fun k _ hk => setRow_other w gg k _ (fun e => hk (by simp [Fact.owns, Value.ownBlock, e]))⟩ (by simp [Fact.owns, Value.ownBlock]) (fun k hk => ?_) ?_
        · simp [Fact.owns, Value.ownBlock] at hk
          subst hk
          exact ⟨.inl (by simp [Fact.owns, Value.ownBlock]), by simpa using lt_of_some hg⟩
        · rw [hOe]
          have hcl2 : (clrAt xs l).length = xs.length := by unfold clrAt; simp; omega
          have hml : xs.length - l.toNat = m' + 1 := by omega
          refine ⟨cells.take l.toNat ++ List.replicate (m' + 1) (Value.slice none 0 0), ⟨?_, .inr ⟨gg, c, _, ?_, Nat.zero_le _, setRow_heap w gg cur _ e _ hg, ?_, hcm, ?_, ?_⟩⟩, ?_⟩
          · rw [hcl2, List.length_append, List.length_replicate, List.length_take, hlx, hsz]; omega
          · rw [hcl2]
          · rw [hcl2]; exact hnc'
          · simp only [List.size_toArray, List.length_append, List.length_replicate, List.length_drop, List.length_take, Array.length_toList]
            rw [hcsz, hsz]; omega
          · rw [hcl2]
            rw [hsz, Nat.mul_one] at htake ⊢
            simp only
            have hcl3 : cur.toList.length = c := by simpa using hcsz
            rw [← htake, List.take_take, Nat.min_eq_left (by omega), List.take_append_of_le_length (by simp; omega), List.take_of_length_le (by simp; omega)]
          · have e2 : (cells.take l.toNat ++ List.replicate (m' + 1) (Value.slice none 0 0)) = (clrAt xs l).map Vc.v := by
              unfold clrAt
              rw [List.map_append, List.map_replicate, hml, List.map_take, ← rdl_vc_eq xs cells hr]
              rfl
            rw [e2]
            exact rdl_vc _
/-! ### A row with elements struck out, at a call -/
theorem Rd.cell1 {β : Type} [Rep β] {A : Nat → Prop} {w : World} {c : Value} {t : β} (ha : Rep.agg β = false) (h : Rep.rdc A w [c] t) : Rd A w c t := ⟨[c], by simp [Rep.val, ha], h⟩
theorem del_pair {α β : Type} [Rep α] [Rep β] {A : Nat → Prop} {w : World} {dat : β → α} {φ : α → Option Bool} {φv : Vc → Option Bool} (hs : Rep.sz β = 1) (hφ : ∀ (c : Vc) (t : β), Rep.rdc A w [c.v] t → φv c = φ (dat t)) :
    ∀ (ts : List β) (vs : List Vc) (zs : List α), RdL A w (vs.map Vc.v) ts → del φ (ts.map dat) = some zs → ∃ us ys, del φv vs = some ys ∧ us.map dat = zs ∧ List.Sublist us ts ∧ RdL A w (ys.map Vc.v) us
  | [], vs, zs, h, hz => by
    have hv : vs = [] := by simpa [RdL] using h
    subst hv
    cases hz
    exact ⟨[], [], rfl, rfl, .slnil, rfl⟩
  | t :: ts, vs, zs, ⟨c1, c2, e, h1, h2⟩, hz => by
    have hl := Rep.len h1
    rw [hs] at hl
    match c1, hl with
    | [c], _ =>
      cases vs with
      | nil => simp at e
      | cons x vs =>
        simp only [List.map_cons, List.singleton_append, List.cons.injEq] at e
        obtain ⟨rfl, rfl⟩ := e
        rw [List.map_cons] at hz
        unfold del at hz
        obtain ⟨b, hb, hz⟩ := bnd_some hz
        obtain ⟨r, hr, hz⟩ := bnd_some hz
        obtain ⟨us, ys, k1, k2, k3, k4⟩ := del_pair hs hφ ts vs r h2 hr
        have hx := hφ x t h1
        cases b with
        | true =>
          refine ⟨us, ys, ?_, ?_, k3.cons t, k4⟩
          · unfold del
            rw [hx, hb, bnd_some_eq, k1, bnd_some_eq]
            rfl
          · rw [k2]
            exact Option.some.inj hz
        | false =>
          refine ⟨t :: us, x :: ys, ?_, ?_, k3.cons_cons t, ⟨[x.v], ys.map Vc.v, rfl, h1, k4⟩⟩
          · unfold del
            rw [hx, hb, bnd_some_eq, k1, bnd_some_eq]
            rfl
          · rw [List.map_cons, k2]
            exact Option.some.inj hz
theorem del_core {α β : Type} [Rep α] [Rep β] {f : FuncId} {e : TypeId} {F : List Vc → (Vc → Option Bool) → Option (List Vc)} {v cv : Value} {ts : List β} {zs : List α} {dat : β → α} {φ : α → Option Bool} (hM : DelCon P f e F) (hF : ∀ vs φ ys, delG vs φ = some ys → F vs φ = some ys)
    (hu : ∀ (A : Nat → Prop) (w : World) (c : Value) (x y : α), Rd A w c x → Rd A w c y → x = y) (hsz : Rep.sz β = 1) (hag : Rep.agg β = false) (hdat : ∀ (A : Nat → Prop) (w : World) (c : Value) (t : β), Rd A w c t → Rd A w c (dat t))
    (i : Nat) (hh : SH A w0 w Γ) (hi : Γ[i]? = some (.ow e v ts)) (hclo : ∀ (ys : List Vc) (w' : World), SH A w0 w' (Γ.set i (.ow e v ys)) → Clo P w' cv φ (fun b : Bool => .bool b)) (hd : delG (ts.map dat) φ = some zs) :
    Calls P f #[v, cv] w fun r w' => ∃ v', r = .returned v' ∧ ∃ us : List β, us.map dat = zs ∧ List.Sublist us ts ∧ SH A w0 w' (Γ.set i (.ow e v' us)) ∧ w.heap.size ≤ w'.heap.size ∧ ∀ b ∈ Ctx.owns (Γ.set i (.ow e v' us)), b ∈ Γ.owns ∨ w.heap.size ≤ b := by
  obtain ⟨cells, h1, h2⟩ := hh.get i hi
  obtain ⟨vs, hvs⟩ := vcs_of cells (RdL.one _ _ h2)
  have hl := RdL.length _ _ h2
  rw [hsz, Nat.mul_one] at hl
  have hvl : vs.length = ts.length := by rw [← hl, ← hvs, List.length_map]
  have hin : ∀ b ∈ v.ownBlock.toList, b ∈ Γ.owns := fun b hb => List.mem_flatMap.2 ⟨_, List.mem_of_getElem? hi, hb⟩
  have hnd : ∀ u : Value, u.ownBlock.toList.Nodup := fun u => by cases u.ownBlock <;> simp
  have hset : ∀ (w' : World) (ys : List Vc), Grow w w' v.ownBlock.toList → Ow (fun k => k ∈ v.ownBlock.toList) w' e v ys → SH A w0 w' (Γ.set i (.ow e v ys)) := by
    rintro w' ys hg ⟨cs, g1, g2⟩
    refine hh.set hi hg (hnd v) (fun b hb => ⟨.inl hb, Nat.lt_of_lt_of_le (hh.ge b (hin b hb)).2 hg.size⟩) ⟨cs, g1, ?_⟩
    rw [rdl_vc_eq _ _ g2]
    exact rdl_vc _
  have hOv : Ow (fun k => k ∈ v.ownBlock.toList) w e v vs := ⟨cells, by rw [hvl]; rw [hsz] at h1; exact h1, by rw [← hvs]; exact rdl_vc vs⟩
  obtain ⟨g, caps, hcv, hgf, _⟩ := hclo vs w (hset w vs (Grow.refl w _) hOv)
  let φv : Vc → Option Bool := fun c => @dite _ (∃ y : α, Rd (fun k => A k ∨ k ∈ Γ.owns) w c.v y) (Classical.propDecidable _) (fun h => φ h.choose) (fun _ => none)
  have hφv : ∀ (c : Vc) (y : α), Rd (fun k => A k ∨ k ∈ Γ.owns) w c.v y → φv c = φ y := by
    intro c y hy
    have hex : ∃ y : α, Rd (fun k => A k ∨ k ∈ Γ.owns) w c.v y := ⟨y, hy⟩
    exact (@dif_pos _ (Classical.propDecidable _) hex _ (fun h => φ h.choose) (fun _ => none)).trans (congrArg φ (hu _ _ _ _ _ hex.choose_spec hy))
  have hφt : ∀ (c : Vc) (t : β), Rep.rdc (fun k => A k ∨ k ∈ Γ.owns) w [c.v] t → φv c = φ (dat t) := fun c t ht => hφv c _ (hdat _ _ _ _ (Rd.cell1 hag ht))
  have hD : DClo P w v.ownBlock.toList e v cv φv := by
    refine ⟨g, caps, hcv, hgf, fun w' ys hg hO x r hr => ?_⟩
    obtain ⟨g', caps', hcv', _, hcall⟩ := hclo ys w' (hset w' ys hg hO)
    rw [hcv] at hcv'
    simp only [Value.func.injEq, Fn.func.injEq, true_and] at hcv'
    obtain ⟨rfl, hcc⟩ := hcv'
    have hcaps : caps = caps' := by simpa using congrArg Array.toList hcc
    subst hcaps
    have hy : ∃ y : α, Rd (fun k => A k ∨ k ∈ Γ.owns) w x.v y ∧ φ y = some r := by
      have hr' : @dite _ (∃ y : α, Rd (fun k => A k ∨ k ∈ Γ.owns) w x.v y) (Classical.propDecidable _) (fun h => φ h.choose) (fun _ => none) = some r := hr
      split at hr'
      · rename_i hex
        exact ⟨_, hex.choose_spec, hr'⟩
      · cases hr'
    obtain ⟨y, hy1, hy2⟩ := hy
    have hy3 : Rd nowhere w' x.v y := hy1.frame fun k hk hn => ⟨hg.block k hk (fun hm => hn (.inr (hin k hm))), fun h => h.elim⟩
    refine (hcall w' ⟨rfl, rfl, rfl, Nat.le_refl _, fun _ _ => rfl⟩ x.v y r hy3 hy2).mono ?_
    rintro en w2 ⟨_, rfl, hk⟩
    exact ⟨rfl, Grow.of_below hk.below []⟩
  have hguard : ts.length ≤ 1099511627776 ∧ del φ (ts.map dat) = some zs := by
    unfold delG at hd
    split at hd
    · rename_i hle
      exact ⟨by simpa using hle, hd⟩
    · cases hd
  have h2' : RdL (fun k => A k ∨ k ∈ Γ.owns) w (vs.map Vc.v) ts := by rw [hvs]; exact h2
  obtain ⟨us, ys, k1, k2, k3, k4⟩ := del_pair hsz hφt ts vs zs h2' hguard.2
  have hFy : F vs φv = some ys := hF _ _ _ (by unfold delG; rw [if_pos (by rw [hvl]; exact hguard.1), k1])
  refine (hM w v cv vs ys φv hD hOv (fun b hb => (hh.ge b (hin b hb)).2) hFy).mono ?_
  rintro r w' ⟨v', rfl, ⟨cs', g1, g2⟩, hg, hown⟩
  have hnew : ∀ b ∈ Ctx.owns (Γ.set i (.ow e v' us)), b ∈ Γ.owns ∨ w.heap.size ≤ b := by
    intro b hb
    obtain ⟨l1, l2, e1, e2⟩ := owns_set (f' := .ow e v' us) hi
    rw [e2] at hb
    rw [e1]
    simp only [List.append_assoc, List.mem_append] at hb ⊢
    rcases hb with hb | hb | hb
    · exact .inl (.inl hb)
    · rcases (hown b hb).1 with h' | h'
      · exact .inl (.inr (.inl h'))
      · exact .inr h'
    · exact .inl (.inr (.inr hb))
  have hulen : ys.length = us.length := by
    have := RdL.length _ _ k4
    rw [hsz, Nat.mul_one, List.length_map] at this
    exact this
  refine ⟨v', rfl, us, k2, k3, hh.set hi hg (hnd v') hown ⟨cs', ?_, ?_⟩, hg.size, hnew⟩
  · rw [← hulen, hsz]
    exact g1
  · rw [rdl_vc_eq _ _ g2]
    refine RdL.frame (fun k hk hn => ⟨hg.block k hk (fun hm => hn (.inr (hin k hm))), ?_⟩) _ _ k4
    rintro (ha | hb)
    · exact hn (.inl ha)
    · rcases hnew k hb with h' | h'
      · exact hn (.inr h')
      · omega
theorem JL_del {α : Type} [Rep α] {ops : Array Oper} {rs : List Oper} {d : Nat} {f : FuncId} {args : List Operand} {ats : Array TypeId} {v cv : Value} {e : TypeId} {xs zs : List α} {φ : α → Option Bool} {F : List Vc → (Vc → Option Bool) → Option (List Vc)} (i : Nat) (hM : DelCon P f e F) (hF : ∀ vs φ ys, delG vs φ = some ys → F vs φ = some ys)
    (hu : ∀ (A : Nat → Prop) (w : World) (c : Value) (x y : α), Rd A w c x → Rd A w c y → x = y) (hsz : Rep.sz α = 1) (hag : Rep.agg α = false)
    (hw : Wants n ρ ops ⟨some d, .call ⟨.value (.func f), args.toArray, ats⟩, ty, pos, after, g⟩) (hd : Nat.blt d n.n = true)
    (hf : ∀ args w, (callFunc f args).run P w = .ok (.enter f args) w) (hargs : evL ρ args = some [v, cv]) (hi : Γ[i]? = some (.ow e v xs)) (hclo : ∀ (ys : List Vc) (w : World), SH A w0 w (Γ.set i (.ow e v ys)) → Clo P w cv φ (fun b : Bool => .bool b)) (hr' : delG xs φ = some zs)
    (h : ∀ v' : Value, JL P n A w0 ops rs Q ((d, v') :: ρ) (Γ.set i (.ow e v' zs)) E) : JL P n A w0 ops (⟨some d, .call ⟨.value (.func f), args.toArray, ats⟩, ty, pos, after, g⟩ :: rs) Q ρ Γ E := by
  intro r hr a w hs hh
  refine wpList_step fun K hK => ?_
  rw [hw a hs]
  simp only [if_true]
  unfold Oper.wp
  rw [run_mark hs hf hargs, Oper.upon_enter]
  refine (del_core (dat := fun x : α => x) hM hF hu hsz hag (fun _ _ _ _ h => h) i hh hi hclo (by simpa using hr')).mono ?_
  rintro e' w' ⟨v', rfl, us, e1, _, h2, _, _⟩
  have e1' : us = zs := by simpa using e1
  subst e1'
  exact hK _ _ (h v' r hr _ _ (hs.put (by simpa [Nat.blt_eq] using hd)) h2)
theorem tks_sub {α : Type} : ∀ {us ts : List (Tk α)}, List.Sublist us ts → List.Sublist (tks us) (tks ts)
  | _, _, .slnil => .slnil
  | _, _, .cons a h => (tks_sub h).trans (List.sublist_append_right ..)
  | _, _, .cons_cons a h => (List.Sublist.refl _).append (tks_sub h)
theorem JL_del_od {α : Type} [Rep α] {ops : Array Oper} {rs : List Oper} {d : Nat} {f : FuncId} {args : List Operand} {ats : Array TypeId} {v cv : Value} {e : TypeId} {xs zs : List α} {B : List Nat} {φ : α → Option Bool} {F : List Vc → (Vc → Option Bool) → Option (List Vc)} (i : Nat) (hM : DelCon P f e F) (hF : ∀ vs φ ys, delG vs φ = some ys → F vs φ = some ys)
    (hu : ∀ (A : Nat → Prop) (w : World) (c : Value) (x y : α), Rd A w c x → Rd A w c y → x = y) (hsz : Rep.sz α = 1) (hag : Rep.agg α = false)
    (hw : Wants n ρ ops ⟨some d, .call ⟨.value (.func f), args.toArray, ats⟩, ty, pos, after, g⟩) (hd : Nat.blt d n.n = true)
    (hf : ∀ args w, (callFunc f args).run P w = .ok (.enter f args) w) (hargs : evL ρ args = some [v, cv]) (hi : Γ[i]? = some (.od e v xs B)) (hclo : ∀ (ys : List Vc) (w : World), SH A w0 w (Γ.set i (.ow e v ys)) → Clo P w cv φ (fun b : Bool => .bool b)) (hr' : delG xs φ = some zs)
    (h : ∀ v' : Value, JL P n A w0 ops rs Q ((d, v') :: ρ) (Γ.set i (.od e v' zs B)) E) : JL P n A w0 ops (⟨some d, .call ⟨.value (.func f), args.toArray, ats⟩, ty, pos, after, g⟩ :: rs) Q ρ Γ E := by
  intro r hr a w hs hh
  refine wpList_step fun K hK => ?_
  rw [hw a hs]
  simp only [if_true]
  unfold Oper.wp
  rw [run_mark hs hf hargs, Oper.upon_enter]
  have hli := (List.getElem?_eq_some_iff.1 hi).1
  have hBt : ∀ c ∈ B, c ∈ Γ.toks := fun c hc => List.mem_flatMap.2 ⟨_, List.mem_of_getElem? hi, hc⟩
  obtain ⟨ts, e1, e2, e3, h1⟩ := hh.od_down i hi
  have hoi : Ctx.owns (Γ.set i (.ow e v ts)) = Γ.owns := owns_set_eq hi rfl
  refine (del_core (dat := Tk.x) hM hF hu (show Rep.sz (Tk α) = 1 from hsz) (show Rep.agg (Tk α) = false from hag) (fun A w c t ht => by
    obtain ⟨cs, e, hr⟩ := ht
    exact ⟨cs, e, Rep.dcr hr.1 hr.2⟩) i h1 (get_set hli) (fun ys w' hk => hclo ys w' (by rw [List.set_set] at hk; exact hk)) (by
    show delG (dats ts) φ = some zs
    rw [e1]
    exact hr')).mono ?_
  rintro e' w' ⟨v', rfl, us, f1, f2, h2, hsize, hnew⟩
  refine hK _ _ (h v' r hr _ _ (hs.put (by simpa [Nat.blt_eq] using hd)) ?_)
  rw [List.set_set] at h2 hnew
  rw [hoi] at hnew
  have hsub := tks_sub f2
  have h3 := h2.od_up (B := B) i (get_set hli) (e2.sublist hsub) (fun b hb => e3 b (hsub.subset hb)) (fun b hb => ⟨hh.tge b (hBt b hb), Nat.lt_of_lt_of_le (hh.tlt b (hBt b hb)).1 hsize, fun hm => by
    rcases hnew b hm with h' | h'
    · exact (hh.tlt b (hBt b hb)).2 h'
    · have := (hh.tlt b (hBt b hb)).1
      omega⟩) ?_
  · rw [List.set_set] at h3
    have f1' : dats us = zs := f1
    rw [f1'] at h3
    exact h3
  · have p1 := toks_perm0 hi
    have p2 := toks_perm (f' := .ow e v' us) hi
    simp only [Fact.toks, List.nil_append] at p1 p2
    refine (p2.append_left B).nodup_iff.2 ?_
    exact p1.nodup_iff.1 hh.tnd
end
section
variable {R : Type} {P : Program} {n : Fr} {A : Nat → Prop} {w0 w1 : World} {Q : R → Exit → Act → World → Prop} {ρ ρ' : Env} {Γ Γ' Γ1 : Ctx} {E : Option R} {ops : Array Oper} {O : List Nat} {fuel : Nat} {listed : Array Bool}
theorem N_inlD3 {fn : Func} {n2 : Fr} {ρ2 : Env} {i d : Nat} {is1 : List Nat} {C : Nat → Prop} {K : R → Value → World → Prop} {rv1 rv2 rv3 : ResultVar} {u1 u2 u3 : Value} (hK : BehindD P n A w0 w1 Γ1 ops O fuel listed Q i d ρ is1 C K) (hres : fn.results = #[rv1, rv2, rv3]) (hu1 : Rv P n2 A w0 ρ2 Γ rv1 u1) (hu2 : Rv P n2 A w0 ρ2 Γ rv2 u2) (hu3 : Rv P n2 A w0 ρ2 Γ rv3 u3) (p : Nat) (is2 : List Nat) (hp : Γ[p]? = some (.fz w1 C)) (hsel : sel is2 Γ = sel is1 Γ1)
    (h : JD P n A w0 w1 Γ1 ops O fuel (listed.setIfInBounds i true) Q ((d, .tuple #[u1, u2, u3]) :: ρ) Γ E) (hds : n2.ds = [] := by rfl) : N n2 A w0 (QInl P fn K) .ret ρ2 Γ E := by
  intro r hr a w hs hh
  refine leaves0 (hs.defers.trans hds) ⟨.tuple #[u1, u2, u3], ?_, _, rfl, hK _ _ _ p is2 hp hsel h r hr w hh⟩
  rw [results_rv, hres]
  simp [hu1 a w hs hh, hu2 a w hs hh, hu3 a w hs hh]
theorem N_inlD4 {fn : Func} {n2 : Fr} {ρ2 : Env} {i d : Nat} {is1 : List Nat} {C : Nat → Prop} {K : R → Value → World → Prop} {rv1 rv2 rv3 rv4 : ResultVar} {u1 u2 u3 u4 : Value} (hK : BehindD P n A w0 w1 Γ1 ops O fuel listed Q i d ρ is1 C K) (hres : fn.results = #[rv1, rv2, rv3, rv4]) (hu1 : Rv P n2 A w0 ρ2 Γ rv1 u1) (hu2 : Rv P n2 A w0 ρ2 Γ rv2 u2) (hu3 : Rv P n2 A w0 ρ2 Γ rv3 u3) (hu4 : Rv P n2 A w0 ρ2 Γ rv4 u4) (p : Nat) (is2 : List Nat) (hp : Γ[p]? = some (.fz w1 C)) (hsel : sel is2 Γ = sel is1 Γ1)
    (h : JD P n A w0 w1 Γ1 ops O fuel (listed.setIfInBounds i true) Q ((d, .tuple #[u1, u2, u3, u4]) :: ρ) Γ E) (hds : n2.ds = [] := by rfl) : N n2 A w0 (QInl P fn K) .ret ρ2 Γ E := by
  intro r hr a w hs hh
  refine leaves0 (hs.defers.trans hds) ⟨.tuple #[u1, u2, u3, u4], ?_, _, rfl, hK _ _ _ p is2 hp hsel h r hr w hh⟩
  rw [results_rv, hres]
  simp [hu1 a w hs hh, hu2 a w hs hh, hu3 a w hs hh, hu4 a w hs hh]
end
/-- A word's cell tells the word. -/
theorem rdl_int_uq {A A' : Nat → Prop} {w w' : World} : ∀ (xs ys : List Int) (cs : List Value), RdL A w cs xs → RdL A' w' cs ys → xs = ys
  | [], [], _, _, _ => rfl
  | [], y :: ys, cs, h1, ⟨c1, c2, e, h2, _⟩ => by
    have k1 : c1 = [.int .i64 y] := h2
    have : cs = [] := h1
    subst this k1
    simp at e
  | x :: xs, [], cs, ⟨c1, c2, e, h2, _⟩, h1 => by
    have k1 : c1 = [.int .i64 x] := h2
    have : cs = [] := h1
    subst this k1
    simp at e
  | x :: xs, y :: ys, cs, ⟨c1, c2, e, h1, h2⟩, ⟨d1, d2, e', h1', h2'⟩ => by
    have k1 : c1 = [.int .i64 x] := h1
    have k2 : d1 = [.int .i64 y] := h1'
    subst k1 k2
    rw [e] at e'
    simp only [List.singleton_append, List.cons.injEq, Value.int.injEq, true_and] at e'
    obtain ⟨rfl, rfl⟩ := e'
    rw [rdl_int_uq xs ys c2 h2 h2']
theorem rd_uq_ints (A : Nat → Prop) (w : World) (c : Value) (x y : List Int) (h1 : Rd A w c x) (h2 : Rd A w c y) : x = y := by
  rcases Rd.sl h1 with ⟨rfl, ad, cap, rfl, _⟩ | ⟨b, off, cap, cells, rfl, k1, k2, k3, k4, k5, k6⟩
  · rcases Rd.sl h2 with ⟨rfl, _⟩ | ⟨b', off', cap', cells', e, _⟩
    · rfl
    · simp only [Value.slice.injEq] at e
      exact (List.eq_nil_of_length_eq_zero e.2.1.symm).symm
  · rcases Rd.sl h2 with ⟨rfl, ad, cap', e, _⟩ | ⟨b', off', cap', cells', e, j1, j2, j3, j4, j5, j6⟩
    · simp only [Value.slice.injEq] at e
      exact List.eq_nil_of_length_eq_zero e.2.1
    · simp only [Value.slice.injEq, Option.some.injEq, Addr.mk.injEq, and_true] at e
      obtain ⟨⟨rfl, rfl⟩, hl, _⟩ := e
      have l1 := RdL.length _ _ k6
      have l2 := RdL.length _ _ j6
      have hc : cells = cells' := by
        apply List.ext_getElem
        · rw [l1, l2, hl]
        · intro n h1 h2
          have a1 := k5 n _ (List.getElem?_eq_getElem h1)
          have a2 := j5 n _ (List.getElem?_eq_getElem h2)
          rw [a1] at a2
          exact Option.some.inj a2
      subst hc
      exact rdl_int_uq _ _ _ k6 j6
end Go.Tc
namespace Go.Tc
open Go Go.RowKit
section
variable {R : Type} {P : Program} {n : Fr} {A : Nat → Prop} {w0 w w1 w' : World} {Q : R → Exit → Act → World → Prop} {ρ ρ' : Env} {Γ Γ' : Ctx} {E : Option R}
variable {d : Option Nat} {ty : TypeId} {pos : String} {after : Array Edge} {g : Option (Nat × Bool)}
theorem ex_mkiface {x : Operand} {t e : TypeId} {v : Value} (ht : P.underlying t = some (.pointer e)) (hx : ev ρ x = some v) : Ex P n A w0 ρ Γ ⟨d, .makeInterface t x, ty, pos, after, g⟩ (.iface t v) := by
  intro a w hs hh
  simp [execOp, Instr.makeInterface, hs.eval hx, run_underlying ht]
theorem run_callm {a : Act} {d : Nat} {o : Operand} {f : FuncId} {t : TypeId} {m : String} {args : List Operand} {ats : Array TypeId} {v u : Value} {vs : List Value} (hs : Sat n ρ a)
    (ho : ev ρ o = some (.iface t v)) (hargs : evL ρ args = some vs) (hm : ∀ w, (callMethod (.iface t v) m vs.toArray).run P w = .ok (.enter f (u :: vs).toArray) w) :
    (execOp a.eval ⟨some d, .call ⟨.invoke o m, args.toArray, ats⟩, ty, pos, after, g⟩).run P w = .ok (.enter f (u :: vs).toArray) w := by
  simp [execOp, resolve, hs.eval ho, invoke, hs.evalL hargs, hm]
theorem JL_callm {ops : Array Oper} {rest : List Oper} {d : Nat} {o : Operand} {f : FuncId} {t : TypeId} {m : String} {args : List Operand} {ats : Array TypeId} {v' u : Value} {vs : List Value} {G : Type} {v : G → Value} {Γ' : G → Ctx}
    (hw : Wants n ρ ops ⟨some d, .call ⟨.invoke o m, args.toArray, ats⟩, ty, pos, after, g⟩) (hd : Nat.blt d n.n = true)
    (ho : ev ρ o = some (.iface t v')) (hargs : evL ρ args = some vs) (hm : ∀ w, (callMethod (.iface t v') m vs.toArray).run P w = .ok (.enter f (u :: vs).toArray) w) (hC : Ca P A w0 Γ f (u :: vs) v Γ')
    (h : ∀ x, JL P n A w0 ops rest Q ((d, v x) :: ρ) (Γ' x) E) : JL P n A w0 ops (⟨some d, .call ⟨.invoke o m, args.toArray, ats⟩, ty, pos, after, g⟩ :: rest) Q ρ Γ E := by
  intro r hr a w hs hh
  refine wpList_step fun K hK => ?_
  rw [hw a hs]
  simp only [if_true]
  unfold Oper.wp
  rw [run_callm hs ho hargs hm, Oper.upon_enter]
  refine (hC w hh).mono ?_
  rintro e w' ⟨x, rfl, hh', _⟩
  exact hK _ _ (h x r hr _ _ (hs.put (by simpa [Nat.blt_eq] using hd)) hh')
theorem JL_callmT {ops : Array Oper} {rest : List Oper} {d : Nat} {o : Operand} {f : FuncId} {t : TypeId} {m : String} {args : List Operand} {ats : Array TypeId} {v' u : Value} {vs : List Value} {G : Type} {v : G → Value} {Γ' : G → Ctx} {T : List Nat}
    (hw : Wants n ρ ops ⟨some d, .call ⟨.invoke o m, args.toArray, ats⟩, ty, pos, after, g⟩) (hd : Nat.blt d n.n = true)
    (ho : ev ρ o = some (.iface t v')) (hargs : evL ρ args = some vs) (hm : ∀ w, (callMethod (.iface t v') m vs.toArray).run P w = .ok (.enter f (u :: vs).toArray) w) (hC : CaT P A w0 Γ f (u :: vs) v Γ' T)
    (h : ∀ x, JL P n A w0 ops rest Q ((d, v x) :: ρ) (Γ' x) E) : JL P n A w0 ops (⟨some d, .call ⟨.invoke o m, args.toArray, ats⟩, ty, pos, after, g⟩ :: rest) Q ρ Γ E := by
  intro r hr a w hs hh
  refine wpList_step fun K hK => ?_
  rw [hw a hs]
  simp only [if_true]
  unfold Oper.wp
  rw [run_callm hs ho hargs hm, Oper.upon_enter]
  refine (hC w hh).mono ?_
  rintro e w' ⟨x, rfl, hh', _⟩
  exact hK _ _ (h x r hr _ _ (hs.put (by simpa [Nat.blt_eq] using hd)) hh')
theorem JL_inlinem {ops : Array Oper} {rest : List Oper} {d : Nat} {o : Operand} {f : FuncId} {t : TypeId} {m : String} {fn : Func} {body : Code} {n' : Nat} {args : List Operand} {ats : Array TypeId} {v u : Value} {vs : List Value}
    (hw : Wants n ρ ops ⟨some d, .call ⟨.invoke o m, args.toArray, ats⟩, ty, pos, after, g⟩) (hd : Nat.blt d n.n = true)
    (ho : ev ρ o = some (.iface t v)) (hargs : evL ρ args = some vs) (hm : ∀ w, (callMethod (.iface t v) m vs.toArray).run P w = .ok (.enter f (u :: vs).toArray) w)
    (hfn : P.funcs[f]? = some fn) (hb : fn.body = some body) (hn : fn.ntmps = n') (hl : Nat.ble (u :: vs).length n' = true) (hρ : enum 0 (u :: vs) = ρ')
    (h : ∀ K : R → Value → World → Prop, Behind P n A w0 ops rest Q d ρ K → J P ⟨n', [], none⟩ A w0 body (QInl P fn K) ρ' Γ E) : JL P n A w0 ops (⟨some d, .call ⟨.invoke o m, args.toArray, ats⟩, ty, pos, after, g⟩ :: rest) Q ρ Γ E := by
  intro r hr a w hs hh
  refine wpList_step fun K hK => ?_
  rw [hw a hs]
  simp only [if_true]
  unfold Oper.wp
  rw [run_callm hs ho hargs hm, Oper.upon_enter]
  refine (calls_wp hfn hb (R := fun e w' => ∃ u, e = .returned u ∧ wpList P ops (noP (Q r)) rest (a.put (some d) u) w') ?_).mono ?_
  · have hJ := h (fun r u w' => wpList P ops (noP (Q r)) rest (a.put (some d) u) w') (fun u Γ' E' hJL r hE w hw' => hJL r hE _ w (hs.put (by simpa [Nat.blt_eq] using hd)) hw')
    refine hJ r hr _ w ⟨?_, rfl, ?_⟩ hh
    · simp only [Nat.ble_eq] at hl
      simp [hn]; simp at hl; omega
    · intro t u' ht
      rw [← hρ] at ht
      obtain ⟨_, h2⟩ := enum_get (u :: vs) 0 t u' ht
      have h2' : (u :: vs)[t]? = some u' := by simpa using h2
      have hlt : t < (u :: vs).length := (List.getElem?_eq_some_iff.1 h2').1
      simp only [Nat.ble_eq] at hl
      refine ⟨?_, show t < n' by omega⟩
      have hlt' : t < ((u :: vs).toArray).size := by simpa using hlt
      rw [Array.getD_eq_getD_getElem?, Array.getElem?_append_left hlt']
      simp only [List.getElem?_toArray, h2', Option.getD_some]
  · rintro e w' ⟨u, rfl, hu⟩
    exact hK _ _ hu
end
end Go.Tc
namespace Go.Tc
open Go Go.RowKit
/-- A pointer that is nil, or one that is known. -/
def optP (a : Bool) (p : Addr) : Value := cond a (.pointer none) (.pointer (some p))
theorem optP_nil {a : Bool} {p : Addr} (h : a = true) : optP a p = .pointer none := by rw [h]; rfl
theorem optP_some {a : Bool} {p : Addr} (h : a = false) : optP a p = .pointer (some p) := by rw [h]; rfl
/-- What unsafe.SliceData gives. -/
def SD (v x : Value) : Prop := (∃ n c, v = .slice none n c ∧ x = .pointer none) ∨ (∃ a n c, v = .slice (some a) n c ∧ ∃ q, x = .pointer (some q) ∧ (c ≠ 0 → q = a))
section
variable {R : Type} {P : Program} {n : Fr} {A : Nat → Prop} {w0 w w1 w' : World} {Q : R → Exit → Act → World → Prop} {ρ ρ' : Env} {Γ Γ' : Ctx} {E : Option R}
variable {d : Option Nat} {ty : TypeId} {pos : String} {after : Array Edge} {g : Option (Nat × Bool)}
theorem run_eq_ptr {tp te : TypeId} (hp : P.underlying tp = some (.pointer te)) (a : Option Addr) (w : World) : (Op.equal tp (.pointer a) (.pointer none)).run P w = .ok a.isNone w := by
  have h : ∀ d : Nat, (Op.equalIn (d + 1) tp (.pointer a) (.pointer none)).run P w = .ok a.isNone w := fun d => by
    cases a <;> simp [Op.equalIn, run_underlying hp]
  simp [Op.equal, Op.maxDepth, h 9999]
theorem ex_eq_nil {x y : Operand} {t te u : TypeId} {a : Option Addr} (ht : P.underlying t = some (.pointer te)) (hx : ev ρ x = some (.pointer a)) (hy : ev ρ y = some (.pointer none)) : Ex P n A w0 ρ Γ ⟨d, .binOp .eql t x y u, ty, pos, after, g⟩ (.bool a.isNone) := by
  intro b w hs hh
  simp [execOp, hs.eval hx, hs.eval hy, eqGuard, binOp, run_eq_ptr ht]
theorem ex_eq_opt {x y : Operand} {t te u : TypeId} {a : Bool} {p : Addr} (ht : P.underlying t = some (.pointer te)) (hx : ev ρ x = some (optP a p)) (hy : ev ρ y = some (.pointer none)) : Ex P n A w0 ρ Γ ⟨d, .binOp .eql t x y u, ty, pos, after, g⟩ (.bool a) := by
  cases a
  · exact ex_eq_nil (a := some p) ht hx hy
  · exact ex_eq_nil (a := none) ht hx hy
theorem ex_ne_opt {x y : Operand} {t te u : TypeId} {z : Nat × Bool} {a : Bool} {p : Addr} (ht : P.underlying t = some (.pointer te)) (hi : tinf P te = some z) (ha : a = false) (hx : ev ρ x = some (optP a p)) (hy : ev ρ y = some (.pointer (some p))) : Ex P n A w0 ρ Γ ⟨d, .binOp .neq t x y u, ty, pos, after, g⟩ (.bool false) := by
  intro b w hs hh
  rw [optP_some ha] at hx
  obtain ⟨j, hj⟩ : ∃ j, P.info? te = some j := by
    unfold tinf at hi
    split at hi
    · exact ⟨_, by assumption⟩
    · cases hi
  have h := Lib.run_neq_ptr_same (P := P) w p ht hj
  simp [execOp, hs.eval hx, hs.eval hy, eqGuard, h]
theorem shape_bx {b : Nat} {t : TypeId} {cs : List Value} {w : World} (h : w.heap[b]? = some (.cells cs.toArray t (0, 0))) : w.shape? b = some (t, cs.length) := by
  simp [World.shape?, h]
theorem ex_to_unsafe {x : Operand} {s t e e' : TypeId} {b k : Nat} {ag : Bool} {cs : List Value} (i : Nat) (hs' : P.underlying s = some (.pointer e)) (ht : P.underlying t = some .unsafePointer) (he : tinf P e = some (k + 1, ag)) (hx : ev ρ x = some (.pointer (some ⟨b, 0, none⟩))) (hi : Γ[i]? = some (.bx b e' cs)) (hc : Nat.blt 0 cs.length = true) :
    Ex P n A w0 ρ Γ ⟨d, .convert s t x, ty, pos, after, g⟩ (.pointer (some ⟨b, 0, none⟩)) := by
  intro a w hs hh
  obtain ⟨j, hj, hjs⟩ : ∃ j, P.info? e = some j ∧ j.size ≠ 0 := by
    unfold tinf at he
    split at he
    · rename_i j u h1 h2
      simp only [Option.some.injEq, Prod.mk.injEq] at he
      exact ⟨j, h1, by omega⟩
    · cases he
  have h := Lib.run_to_unsafe (P := P) w ⟨b, 0, none⟩ hs' ht hj hjs (shape_bx (hh.get i hi)) (by simpa [Nat.blt_eq] using hc)
  simp [execOp, hs.eval hx, h]
theorem ex_from_unsafe {x : Operand} {s t e e' : TypeId} {b : Nat} {z : Nat × Bool} {cs : List Value} (i : Nat) (hs' : P.underlying s = some .unsafePointer) (ht : P.underlying t = some (.pointer e)) (he : tinf P e = some z) (hx : ev ρ x = some (.pointer (some ⟨b, 0, none⟩))) (hi : Γ[i]? = some (.bx b e' cs)) (hl : liesAt P P.depth e' (cs.length / P.cellsOf e') 0 e 1 = true) :
    Ex P n A w0 ρ Γ ⟨d, .convert s t x, ty, pos, after, g⟩ (.pointer (some ⟨b, 0, none⟩)) := by
  intro a w hs hh
  obtain ⟨j, hj⟩ : ∃ j, P.info? e = some j := by
    unfold tinf at he
    split at he
    · exact ⟨_, by assumption⟩
    · cases he
  have h := Lib.run_from_unsafe (P := P) w ⟨b, 0, none⟩ hs' ht hj (shape_bx (hh.get i hi)) hl
  simp [execOp, hs.eval hx, h]
/-- A call of a function without a body that the model answers at once. -/
theorem ex_extern {f : FuncId} {args : List Operand} {ats : Array TypeId} {vs : List Value} {u : Value} (hf : ∀ w, (callFunc f vs.toArray).run P w = .ok (.value u) w) (hargs : evL ρ args = some vs) : Ex P n A w0 ρ Γ ⟨d, .call ⟨.value (.func f), args.toArray, ats⟩, ty, pos, after, g⟩ u := by
  intro a w hs hh
  simp [execOp, resolve, Act.eval, Deferred.ofValue, invoke, hs.evalL hargs, hf]
theorem st_sliceData {α : Type} [Rep α] {x : Operand} {t e e' : TypeId} {v : Value} {xs : List α} (i : Nat) (ht : P.underlying ty = some (.pointer e)) (hx : ev ρ x = some v) (hi : Γ[i]? = some (.ow e' v xs)) :
    St P n A w0 ρ Γ ⟨d, .call ⟨.builtin .unsafeSliceData, #[x], #[t]⟩, ty, pos, after, g⟩ (fun u : Value => u) (fun u => .pr (SD v u) :: Γ) [] := by
  intro a w hs hh
  obtain ⟨cells, ⟨_, h⟩, _⟩ := hh.get i hi
  have hpr : ∀ {u : Value} {w' : World}, Grow w w' [] → SD v u → SH A w0 w' (.pr (SD v u) :: Γ) := fun hg h => hh.cons hg (by simp [Fact.owns]) (by simp [Fact.owns]) h
  rcases h with ⟨rfl, hz⟩ | ⟨b, cap, cur, rfl, _, hb, hn, hm, hc, _⟩
  · refine ⟨.pointer none, w, ?_, hpr (Grow.refl w _) (.inl ⟨_, _, rfl, rfl⟩), Grow.refl w _, .cons (by simp [Fact.owns])⟩
    simp [execOp, resolve, invoke, builtin, hs.eval hx, Lib.run_unsafeSliceData_nil]
  · by_cases h0 : cap = 0
    · subst h0
      have h := Lib.run_unsafeSliceData_zero (P := P) w #[t] ty e ht ⟨b, 0, none⟩ xs.length (e', cur.size) (by simp [World.shape?, hb])
      refine ⟨.pointer (some ⟨w.heap.size, 0, none⟩), w.alloc (.view ⟨b, 0, none⟩ e), ?_, hpr (Grow.alloc w _ _) (.inr ⟨_, _, _, rfl, _, rfl, fun h => absurd rfl h⟩), Grow.alloc w _ _, .cons (by simp [Fact.owns])⟩
      simp [execOp, resolve, invoke, builtin, hs.eval hx, h]
    · refine ⟨.pointer (some ⟨b, 0, none⟩), w, ?_, hpr (Grow.refl w _) (.inr ⟨_, _, _, rfl, _, rfl, fun _ => rfl⟩), Grow.refl w _, .cons (by simp [Fact.owns])⟩
      simp [execOp, resolve, invoke, builtin, hs.eval hx, Lib.run_unsafeSliceData_row w #[t] ty ⟨b, 0, none⟩ xs.length cap h0]
theorem run_loadB (w : World) : ∀ (l : List Int) (a : Addr) (acc : ByteArray), (∀ j x, l[j]? = some x → w.cell? (a.add j) = some (.int .u8 x)) →
    (loadBytes a acc l.length).run P w = .ok ⟨acc.data ++ (l.map fun x => x.toNat.toUInt8).toArray⟩ w
  | [], a, acc, _ => by simp [loadBytes]
  | x :: l, a, acc, h => by
    have h0 : w.cell? a = some (.int .u8 x) := by
      have := h 0 x rfl
      simpa [Addr.add] using this
    have ih := run_loadB w l (a.add 1) (acc.push x.toNat.toUInt8) (fun j y hy => by
      have := h (j + 1) y (by simpa using hy)
      have e : (a.add 1).add j = a.add (j + 1) := by
        unfold Addr.add
        by_cases hj : j = 0
        · subst hj; simp
        · simp [hj]; omega
      rw [e]; exact this)
    simp only [List.length_cons, loadBytes, Sem.run_bind, run_load, h0, Result.andThen]
    rw [ih]
    congr 1
    apply ByteArray.ext
    simp [ByteArray.push]
theorem run_uString {pt it t e : TypeId} (hp : P.underlying pt = some (.pointer e)) (hc : P.cellsOf e = 1) (b cells : Nat) (w : World) (hsh : w.shape? b = some (e, cells)) (l : List Int) (h0 : l ≠ []) (hn : l.length ≤ cells) (h63 : l.length ≤ 9223372036854775807)
    (hcell : ∀ j x, l[j]? = some x → w.cell? ((⟨b, 0, none⟩ : Addr).add j) = some (.int .u8 x)) :
    (Builtin.unsafeString_ #[pt, it] t #[.pointer (some ⟨b, 0, none⟩), .int .i64 l.length]).run P w = .ok (.string ⟨(l.map fun x => x.toNat.toUInt8).toArray⟩) (w.freeze ⟨b, 0, none⟩ l.length) := by
  have hl : l.length ≠ 0 := by simpa using h0
  have hlb := run_loadB (P := P) w l ⟨b, 0, none⟩ .empty hcell
  have hlies := Lib.liesAt_bytes (P := P) hc (cells / P.cellsOf e) l.length (by rw [hc]; simpa using hn)
  have h63' : ¬ (9223372036854775807 : Int) < (l.length : Int) := by omega
  have hdef : Builtin.unsafeString_ #[pt, it] t #[.pointer (some ⟨b, 0, none⟩), .int .i64 l.length] =
      (do
        let n ← asInt (.int .i64 l.length)
        if n < 0 then runtimePanic (.error "unsafe.String: len out of range")
        if n > IntKind.i64.max then unsupported (.unsafePointer "String: a length above the largest int")
        if n = 0 then pure (.string .empty)
        else if ← variablesAt ⟨b, 0, none⟩ (← elemOf pt) n.toNat then do
          let s ← loadBytes ⟨b, 0, none⟩ .empty n.toNat
          freeze ⟨b, 0, none⟩ n.toNat
          pure (.string s)
        else unsupported (.unsafePointer "String: not so many bytes at ptr")) := rfl
  rw [hdef]
  have hmax : IntKind.i64.max = 9223372036854775807 := rfl
  have hneg : ¬ (l.length : Int) < 0 := by omega
  simp [asInt, asIntOf, hmax, h63', hneg, hl, variablesAt, hsh, elemOf, run_underlying hp, hlies, hlb]
theorem grow_freeze (w : World) (b m : Nat) : Grow w (w.freeze ⟨b, 0, none⟩ m) [b] := by
  unfold World.freeze
  split
  · exact Grow.refl w _
  · exact ⟨rfl, rfl, rfl, by simp, fun k _ hk => by
      simp only [Array.getElem?_modify]
      rw [if_neg (by simp at hk; omega)]⟩
theorem st_uString {x y : Operand} {pt it e : TypeId} {v u : Value} {xs : List (Ik .u8)} (i j : Nat) (hp : P.underlying pt = some (.pointer e)) (hc : P.cellsOf e = 1) (hx : ev ρ x = some u) (hy : ev ρ y = some (.int .i64 (xs.length : Int))) (hi : Γ[i]? = some (.ow e v xs)) (hj : Γ[j]? = some (.pr (SD v u))) :
    St P n A w0 ρ Γ ⟨d, .call ⟨.builtin .unsafeString, #[x, y], #[pt, it]⟩, ty, pos, after, g⟩ (fun _ : Unit => .string (strOf xs)) (fun _ => Γ.set i (.pr True)) v.ownBlock.toList := by
  intro a w hs hh
  have hsd : SD v u := hh.get j hj
  obtain ⟨cells, ⟨hcl, h⟩, hrd⟩ := hh.get i hi
  have hcs := rdl_ik xs cells hrd
  have key : ∀ {w' : World}, Grow w w' v.ownBlock.toList → SH A w0 w' (Γ.set i (.pr True)) := fun hg => hh.set hi hg (by simp [Fact.owns]) (by simp [Fact.owns]) trivial
  rcases h with ⟨rfl, hz⟩ | ⟨b, cap, cur, rfl, _, hb, hn, hm, hsz, htk⟩
  · have hnil : xs = [] := List.eq_nil_of_length_eq_zero hz
    subst hnil
    obtain ⟨q, rfl⟩ : ∃ q, u = .pointer q := by
      rcases hsd with ⟨_, _, _, h⟩ | ⟨_, _, _, h, _⟩
      · exact ⟨_, h⟩
      · cases h
    have h := Lib.run_unsafeString_none (P := P) w pt it ty q
    refine ⟨(), w, ?_, key (Grow.refl w _), Grow.refl w _, .set hi (fun c hc => by simp [Fact.owns] at hc)⟩
    have hy' : a.eval y = .int .i64 0 := hs.eval hy
    simp [execOp, resolve, invoke, builtin, hs.eval hx, hy', h]
    rfl
  · by_cases h0 : xs = []
    · subst h0
      obtain ⟨q, rfl⟩ : ∃ q, u = .pointer q := by
        rcases hsd with ⟨_, _, _, h⟩ | ⟨_, _, _, _, q, h, _⟩
        · exact ⟨_, h⟩
        · exact ⟨_, h⟩
      have h := Lib.run_unsafeString_none (P := P) w pt it ty q
      refine ⟨(), w, ?_, key (Grow.refl w _), Grow.refl w _, .set hi (fun c hc => by simp [Fact.owns] at hc)⟩
      have hy' : a.eval y = .int .i64 0 := hs.eval hy
      simp [execOp, resolve, invoke, builtin, hs.eval hx, hy', h]
      rfl
    · have hl0 : xs.length ≠ 0 := by simpa using h0
      have hu : u = .pointer (some ⟨b, 0, none⟩) := by
        rcases hsd with ⟨_, _, h, _⟩ | ⟨a', n', c', h, q, hq, hq'⟩
        · cases h
        · injection h with h1 h2 h3
          injection h1 with h1
          subst h1 h3
          rw [hq, hq' (by omega)]
      subst hu
      have hsz1 : Rep.sz (Ik .u8) = 1 := rfl
      rw [hsz1, Nat.mul_one] at hsz htk
      have hl : (xs.map (·.val)).length = xs.length := List.length_map ..
      have hrun := run_uString (P := P) (it := it) (t := ty) hp hc b cur.size w (by simp [World.shape?, hb]) (xs.map (·.val)) (by simpa using h0) (by omega) (by unfold maxLen at hm; omega) (fun k z hk => by
        have hlt : k < xs.length := by
          have := (List.getElem?_eq_some_iff.1 hk).1
          omega
        have e : ((⟨b, 0, none⟩ : Addr).add k) = ⟨b, k, none⟩ := by
          unfold Addr.add
          by_cases hk0 : k = 0
          · subst hk0; simp
          · simp [hk0]
        have hck : cur.toList[k]? = some (.int .u8 z) := by
          have h1 : (cur.toList.take xs.length)[k]? = cur.toList[k]? := List.getElem?_take_of_lt hlt
          rw [← h1, htk, hcs, List.getElem?_map]
          rw [List.getElem?_map] at hk
          cases hx' : xs[k]? with
          | none => rw [hx'] at hk; cases hk
          | some q => rw [hx'] at hk; simp only [Option.map_some, Option.some.injEq] at hk; rw [← hk]; rfl
        rw [e]
        simp [World.cell?, hb]
        simpa using hck)
      rw [hl] at hrun
      refine ⟨(), w.freeze ⟨b, 0, none⟩ xs.length, ?_, key (grow_freeze w b xs.length), grow_freeze w b xs.length, .set hi (fun c hc => by simp [Fact.owns] at hc)⟩
      have hso : (⟨((xs.map (·.val)).map fun x => x.toNat.toUInt8).toArray⟩ : ByteArray) = strOf xs := by
        unfold strOf
        rw [List.map_map]
        rfl
      rw [hso] at hrun
      have hy' : a.eval y = .int .i64 (xs.length : Int) := hs.eval hy
      simp [execOp, resolve, invoke, builtin, hs.eval hx, hy', hrun]
/-! ### strings.Join, by a contract of the kit's -/
def JoinCon (P : Program) (f : FuncId) : Prop :=
  (∀ (a : Option Addr) (c : Nat) (sep : ByteArray) (w : World), Calls P f #[.slice a 0 c, .string sep] w fun e w' => e = .returned (.string ⟨#[]⟩) ∧ w' = w) ∧
  ∀ (bk o c : Nat) (xs : List ByteArray) (sep : ByteArray) (w : World), (∀ (j : Nat) x, xs[j]? = some x → w.cell? ⟨bk, o + j, none⟩ = some (.string x)) → bk < w.heap.size → xs.length ≤ 140737488355328 → xs.length ≤ c →
    (Lib.join (xs.map (·.data.toList)) sep.data.toList).length ≤ 140737488355328 →
    Calls P f #[.slice (some ⟨bk, o, none⟩) xs.length c, .string sep] w fun e w' => e = .returned (.string ⟨(Lib.join (xs.map (·.data.toList)) sep.data.toList).toArray⟩) ∧ Below w.heap.size w w'
def joinG (xs : List ByteArray) (sep : ByteArray) : Option ByteArray :=
  if xs.length ≤ 140737488355328 ∧ (Lib.join (xs.map (·.data.toList)) sep.data.toList).length ≤ 140737488355328 then some ⟨(Lib.join (xs.map (·.data.toList)) sep.data.toList).toArray⟩ else none
theorem rdl_str {A : Nat → Prop} {w : World} : ∀ (xs : List ByteArray) (cs : List Value), RdL A w cs xs → cs = xs.map Value.string
  | [], _, h => h
  | x :: r, _, ⟨c1, c2, e, h1, h2⟩ => by
    have h1 : c1 = [.string x] := h1
    rw [e, h1, rdl_str r c2 h2]
    rfl
theorem con_join {f : FuncId} (hJ : JoinCon P f) (A : Nat → Prop) (w : World) (hA : ∀ k, A k → k < w.heap.size) (v : Value) (xs : List ByteArray) (hp : Rd A w v xs) (sep r : ByteArray) (hr : joinG xs sep = some r) :
    Con P f [v, .string sep] A w (fun _ : Unit => .string r) (fun _ => []) := by
  unfold joinG at hr
  split at hr
  · rename_i hc
    obtain rfl := Option.some.inj hr
    rcases hp.sl with ⟨rfl, ad, cap, rfl, _⟩ | ⟨b, off, cap, cells, rfl, _, hb, hle, _, hrow, hrd⟩
    · refine (hJ.1 ad cap sep w).mono ?_
      rintro e w' ⟨rfl, rfl⟩
      exact ⟨(), rfl, SH.start hA⟩
    · have hcs := rdl_str xs cells hrd
      refine (hJ.2 b off cap xs sep w (fun j x hj => hrow j _ (by rw [hcs, List.getElem?_map, hj]; rfl)) hb hc.1 hle hc.2).mono ?_
      rintro e w' ⟨rfl, hw⟩
      exact ⟨(), rfl, (SH.start hA).grow (Grow.of_below hw [])⟩
  · cases hr
end
end Go.Tc
namespace Go.Tc
open Go Go.RowKit
section
variable {P : Program}
/-- The table of powers of ten reads as it is laid. -/
def Tab (P : Program) (w : World) : Prop := Lib.TabIs P w "internal/strconv.uint64pow10" .u64 Lib.pow10Tab
theorem Tab.of {A : Nat → Prop} {w0 w : World} {Γ : Ctx} (h : Tab P w0) (hh : SH A w0 w Γ) : Tab P w := Lib.tabBelow_of_tabIs h w hh.below
def FmtCon (P : Program) (f : FuncId) : Prop :=
  ∀ (n : Int), -9223372036854775808 ≤ n → n ≤ 9223372036854775807 → ∀ w : World, Lib.TabIs P w "internal/strconv.uint64pow10" .u64 Lib.pow10Tab →
    Calls P f #[.int .i64 n, .int .i64 10] w fun e w' => e = .returned (.string ⟨(Lib.itoa n).toArray⟩) ∧ ∃ k os, w' = Sort.grow (w.drewN k) os
def fmtG (n b : Int) : Option ByteArray := if b = 10 ∧ -9223372036854775808 ≤ n ∧ n ≤ 9223372036854775807 then some ⟨(Lib.itoa n).toArray⟩ else none
theorem con_fmt {f : FuncId} (hJ : FmtCon P f) (A : Nat → Prop) (w : World) (hA : ∀ k, A k → k < w.heap.size) (hT : Tab P w) (n b : Int) (r : ByteArray) (hr : fmtG n b = some r) :
    Con P f [.int .i64 n, .int .i64 b] A w (fun _ : Unit => .string r) (fun _ => []) := by
  unfold fmtG at hr
  split at hr
  · rename_i hc
    obtain ⟨rfl, h0, h1⟩ := hc
    obtain rfl := Option.some.inj hr
    refine (hJ n h0 h1 w hT).mono ?_
    rintro e w' ⟨rfl, k, os, rfl⟩
    exact ⟨(), rfl, (SH.start hA).grow (Grow.of_below (Lib.below_grow _ w (Nat.le_refl _) k os) [])⟩
  · cases hr
end
end Go.Tc
namespace Go.Tc
open Go Go.RowKit
section
variable {P : Program}
theorem cell_keep {w w' : World} {a : Addr} {v : Value} (hb : ∀ k, k < w.heap.size → w'.heap[k]? = w.heap[k]?) (h : w.cell? a = some v) : w'.cell? a = some v := by
  have hlt := World.block_lt_of_cell? _ _ h
  have e := hb _ hlt
  unfold World.cell? at h ⊢
  rw [e]
  exact h
/-- The library's variable holds some number. -/
def Mxl (P : Program) (w : World) : Prop := ∃ g, P.globalNamed "internal/bytealg.MaxLen" = some g ∧ ∃ m, w.cell? ⟨g, 0, none⟩ = some (.int .i64 m)
theorem Mxl.of {A : Nat → Prop} {w0 w : World} {Γ : Ctx} (h : Mxl P w0) (hh : SH A w0 w Γ) : Mxl P w := by
  obtain ⟨g, hg, m, hm⟩ := h
  exact ⟨g, hg, m, cell_keep (fun k hk => hh.below.block k hk) hm⟩
/-- Both. -/
def Mxt (P : Program) (w : World) : Prop := Mxl P w ∧ Tab P w
theorem Mxt.of {A : Nat → Prop} {w0 w : World} {Γ : Ctx} (h : Mxt P w0) (hh : SH A w0 w Γ) : Mxt P w := ⟨h.1.of hh, h.2.of hh⟩
def SplitCon (P : Program) (f : FuncId) (g : Nat) (e : TypeId) : Prop :=
  ∀ (s sep : ByteArray) (m : Int) (w : World), s.size < 4294967281 → w.cell? ⟨g, 0, none⟩ = some (.int .i64 m) → 1 ≤ sep.size →
    Calls P f #[.string s, .string sep] w fun r w' => r = .returned (.slice (some ⟨w.heap.size, 0, none⟩) (Lib.countB s sep + 1) (Lib.countB s sep + 1)) ∧ w' = w.alloc (.cells ((Lib.splitB sep 0 (Lib.countB s sep) s).map Value.string).toArray e)
def splitG (s sep : ByteArray) : Option (List ByteArray) := if (s.size < 4294967281 ∧ 1 ≤ sep.size) ∧ Lib.countB s sep + 1 ≤ 140737488355328 then some (Lib.splitB sep 0 (Lib.countB s sep) s) else none
theorem rdl_strs {A : Nat → Prop} {w : World} : ∀ (xs : List ByteArray), RdL A w (xs.map Value.string) xs
  | [] => rfl
  | x :: r => ⟨[.string x], r.map Value.string, rfl, rfl, rdl_strs r⟩
theorem con_split {f : FuncId} {g : Nat} {e : TypeId} (hg : P.globalNamed "internal/bytealg.MaxLen" = some g) (hJ : SplitCon P f g e) (A : Nat → Prop) (w : World) (hA : ∀ k, A k → k < w.heap.size) (hM : Mxl P w) (s sep : ByteArray) (r : List ByteArray) (hr : splitG s sep = some r) :
    Con P f [.string s, .string sep] A w (fun x : Value => x) (fun x => [.ow e x r]) := by
  unfold splitG at hr
  split at hr
  · rename_i hc
    obtain rfl := Option.some.inj hr
    obtain ⟨g', hg', m, hm⟩ := hM
    obtain rfl := Option.some.inj (hg.symm.trans hg')
    have hlen := Lib.splitB_all sep hc.1.2 0 _ s rfl
    refine (hJ s sep m w hc.1.1 hm hc.1.2).mono ?_
    rintro _ _ ⟨rfl, rfl⟩
    refine ⟨_, rfl, (SH.start hA).cons (Grow.alloc w _ []) (by simp [Fact.owns, Value.ownBlock]) (by simp [Fact.owns, Value.ownBlock]) ?_⟩
    refine ⟨(Lib.splitB sep 0 (Lib.countB s sep) s).map Value.string, ?_, rdl_strs _⟩
    have := World.ownsRow_lit (base := 0) (e := e) (size := 1) w ((Lib.splitB sep 0 (Lib.countB s sep) s).map Value.string).toArray (Lib.countB s sep + 1) (Nat.zero_le _) (by unfold maxLen; omega) (by simp [hlen])
    rw [hlen]
    exact this
  · cases hr
def CutCon (P : Program) (f : FuncId) (g : Nat) : Prop :=
  ∀ (s sep : ByteArray) (m : Int) (w : World), s.size < 4294967281 → w.cell? ⟨g, 0, none⟩ = some (.int .i64 m) →
    Calls P f #[.string s, .string sep] w fun r w' => r = .returned (.tuple #[.string ⟨(Lib.cut s.data.toList sep.data.toList).1.toArray⟩, .string ⟨(Lib.cut s.data.toList sep.data.toList).2.1.toArray⟩, .bool (Lib.cut s.data.toList sep.data.toList).2.2]) ∧ ∃ n, w' = w.drewN n
def cutG (s sep : ByteArray) : Option (ByteArray × ByteArray × Bool) := if s.size < 4294967281 then some (⟨(Lib.cut s.data.toList sep.data.toList).1.toArray⟩, ⟨(Lib.cut s.data.toList sep.data.toList).2.1.toArray⟩, (Lib.cut s.data.toList sep.data.toList).2.2) else none
theorem con_cut {f : FuncId} {g : Nat} (hg : P.globalNamed "internal/bytealg.MaxLen" = some g) (hJ : CutCon P f g) (A : Nat → Prop) (w : World) (hA : ∀ k, A k → k < w.heap.size) (hM : Mxl P w) (s sep : ByteArray) (r : ByteArray × ByteArray × Bool) (hr : cutG s sep = some r) :
    Con P f [.string s, .string sep] A w (fun _ : Unit => .tuple #[.string r.1, .string r.2.1, .bool r.2.2]) (fun _ => []) := by
  unfold cutG at hr
  split at hr
  · rename_i hc
    obtain rfl := Option.some.inj hr
    obtain ⟨g', hg', m, hm⟩ := hM
    obtain rfl := Option.some.inj (hg.symm.trans hg')
    refine (hJ s sep m w hc hm).mono ?_
    rintro _ _ ⟨rfl, n, rfl⟩
    have hbel : Below w.heap.size w (w.drewN n) := ⟨rfl, rfl, rfl, Nat.le_refl _, fun _ _ => rfl⟩
    exact ⟨(), rfl, (SH.start hA).grow (Grow.of_below hbel [])⟩
  · cases hr
end
end Go.Tc
namespace Go.Tc
open Go Go.RowKit
section
variable {P : Program}
/-- The package variable holds an error. -/
def EvV (P : Program) (name : String) (w : World) : Prop := ∃ g, P.globalNamed name = some g ∧ ∃ tp p, w.cell? ⟨g, 0, none⟩ = some (.iface tp p)
theorem EvV.of {name : String} {A : Nat → Prop} {w0 w : World} {Γ : Ctx} (h : EvV P name w0) (hh : SH A w0 w Γ) : EvV P name w := by
  obtain ⟨g, hg, tp, p, hm⟩ := h
  exact ⟨g, hg, tp, p, cell_keep (fun k hk => hh.below.block k hk) hm⟩
def Rdt (P : Program) (w : World) : Prop := Mxt P w ∧ EvV P "strconv.ErrSyntax" w ∧ EvV P "strconv.ErrRange" w
theorem Rdt.of {A : Nat → Prop} {w0 w : World} {Γ : Ctx} (h : Rdt P w0) (hh : SH A w0 w Γ) : Rdt P w := ⟨h.1.of hh, h.2.1.of hh, h.2.2.of hh⟩
def ReplCon (P : Program) (f : FuncId) (g : Nat) : Prop :=
  ∀ (s old new : ByteArray) (m : Int) (w : World), s.size < 4294967281 → w.cell? ⟨g, 0, none⟩ = some (.int .i64 m) → 1 ≤ old.size → s.size + Lib.countB s old * new.size ≤ 140737488355328 →
    Calls P f #[.string s, .string old, .string new] w fun e w' => e = .returned (.string ⟨(Lib.replaceAll s.data.toList old.data.toList new.data.toList).toArray⟩) ∧ Below w.heap.size w w'
def replG (s old new : ByteArray) : Option ByteArray := if (s.size < 4294967281 ∧ 1 ≤ old.size) ∧ s.size + Lib.countB s old * new.size ≤ 140737488355328 then some ⟨(Lib.replaceAll s.data.toList old.data.toList new.data.toList).toArray⟩ else none
theorem con_repl {f : FuncId} {g : Nat} (hg : P.globalNamed "internal/bytealg.MaxLen" = some g) (hJ : ReplCon P f g) (A : Nat → Prop) (w : World) (hA : ∀ k, A k → k < w.heap.size) (hM : Mxl P w) (s old new : ByteArray) (r : ByteArray) (hr : replG s old new = some r) :
    Con P f [.string s, .string old, .string new] A w (fun _ : Unit => .string r) (fun _ => []) := by
  unfold replG at hr
  split at hr
  · rename_i hc
    obtain rfl := Option.some.inj hr
    obtain ⟨g', hg', m, hm⟩ := hM
    obtain rfl := Option.some.inj (hg.symm.trans hg')
    refine (hJ s old new m w hc.1.1 hm hc.1.2 hc.2).mono ?_
    rintro _ _ ⟨rfl, hbel⟩
    exact ⟨(), rfl, (SH.start hA).grow (Grow.of_below hbel [])⟩
  · cases hr
/-- An error: none, or a pointer in an interface. -/
def errV (T : TypeId) (ok : Bool) (b : Nat) : Value := cond ok .nilIface (.iface T (.pointer (some ⟨b, 0, none⟩)))
def parseR (s : ByteArray) : Int × Bool := match Lib.parseIntB 64 s.data.toList with
  | .ok v => (v, true)
  | .range => (Lib.intSat 64 s.data.toList, false)
  | _ => (0, false)
def parseG (s : ByteArray) (b z : Int) : Option (Int × Bool) := if (b = 10 ∧ z = 64) ∧ s.size ≤ 281474976710656 then some (parseR s) else none
theorem con_parse {f : FuncId} {T : TypeId} {gs gr : Nat} (h1 : P.globalNamed "strconv.ErrSyntax" = some gs) (h2 : P.globalNamed "strconv.ErrRange" = some gr) (t5 : TypeId)
    (hok : ∀ (s : ByteArray), s.size ≤ 9223372036854775806 → ∀ v : Int, Lib.parseIntB 64 s.data.toList = .ok v → ∀ w : World, Calls P f #[.string s, .int .i64 10, .int .i64 64] w fun e w' => e = .returned (.tuple #[.int .i64 v, .nilIface]) ∧ (w' = w ∨ ∃ t, w' = Lib.bytesWorld w t5 t))
    (hsy : ∀ (s : ByteArray), s.size ≤ 281474976710656 → Lib.parseIntB 64 s.data.toList = Lib.parseIntB 64 [] → ∀ (ev : Value) (w : World), w.cell? ⟨gs, 0, none⟩ = some ev → (ev = .nilIface ∨ ∃ te pe, ev = .iface te pe) → Calls P f #[.string s, .int .i64 10, .int .i64 64] w fun e w' => ∃ N, e = .returned (.tuple #[.int .i64 0, .iface T (.pointer (some ⟨N, 0, none⟩))]) ∧ Below w.heap.size w w')
    (hra : ∀ (s : ByteArray), s.size ≤ 281474976710656 → Lib.parseIntB 64 s.data.toList = .range → ∀ (ev : Value) (w : World), w.cell? ⟨gr, 0, none⟩ = some ev → (ev = .nilIface ∨ ∃ te pe, ev = .iface te pe) → Calls P f #[.string s, .int .i64 10, .int .i64 64] w fun e w' => ∃ N, e = .returned (.tuple #[.int .i64 (Lib.intSat 64 s.data.toList), .iface T (.pointer (some ⟨N, 0, none⟩))]) ∧ Below w.heap.size w w')
    (A : Nat → Prop) (w : World) (hA : ∀ k, A k → k < w.heap.size) (hE : EvV P "strconv.ErrSyntax" w ∧ EvV P "strconv.ErrRange" w) (s : ByteArray) (b z : Int) (r : Int × Bool) (hr : parseG s b z = some r) :
    Con P f [.string s, .int .i64 b, .int .i64 z] A w (fun x : Nat => .tuple #[.int .i64 r.1, errV T r.2 x]) (fun _ => []) := by
  unfold parseG at hr
  split at hr
  · rename_i hc
    obtain ⟨⟨rfl, rfl⟩, hs⟩ := hc
    obtain rfl := Option.some.inj hr
    obtain ⟨⟨g1, e1, tp1, p1, c1⟩, ⟨g2, e2, tp2, p2, c2⟩⟩ := hE
    obtain rfl := Option.some.inj (h1.symm.trans e1)
    obtain rfl := Option.some.inj (h2.symm.trans e2)
    unfold parseR
    cases hp : Lib.parseIntB 64 s.data.toList with
    | ok v =>
      refine (hok s (by omega) v hp w).mono ?_
      rintro _ w' ⟨rfl, rfl | ⟨t, rfl⟩⟩
      · exact ⟨0, rfl, SH.start hA⟩
      · exact ⟨0, rfl, (SH.start hA).grow (Grow.of_below (Lib.bytesWorld_below w t5 t) [])⟩
    | range =>
      refine (hra s hs hp _ w c2 (.inr ⟨_, _, rfl⟩)).mono ?_
      rintro _ w' ⟨N, rfl, hbel⟩
      exact ⟨N, rfl, (SH.start hA).grow (Grow.of_below hbel [])⟩
    | _ =>
      refine (hsy s hs hp _ w c1 (.inr ⟨_, _, rfl⟩)).mono ?_
      rintro _ w' ⟨N, rfl, hbel⟩
      exact ⟨N, rfl, (SH.start hA).grow (Grow.of_below hbel [])⟩
  · cases hr
variable {n : Fr} {A : Nat → Prop} {w0 : World} {ρ : Env} {Γ : Ctx} {d : Option Nat} {ty : TypeId} {pos : String} {after : Array Edge} {g : Option (Nat × Bool)}
theorem ex_err_ne {x : Operand} {c : Value} {t u T : TypeId} {ok : Bool} {b : Nat} (hT : P.underlying t = some (.interface (P.methodsAt t))) (hx : ev ρ x = some (errV T ok b)) (hy : ev ρ (.const c) = some .nilIface) : Ex P n A w0 ρ Γ ⟨d, .binOp .neq t x (.const c) u, ty, pos, after, g⟩ (.bool (!ok)) := by
  intro a w hs hh
  cases ok
  · have hx' := hs.eval hx
    simp only [errV, cond_false] at hx'
    simp [execOp, hx', hs.eval hy, eqGuard, Go.run_neq_held_nil w t T _ hT]
  · have hx' := hs.eval hx
    simp only [errV, cond_true] at hx'
    simp [execOp, hx', hs.eval hy, eqGuard, Go.run_neq_nil_nil w t hT]
end
end Go.Tc
