/-
  Function values that read only: made, handed on, called. No condition.
  Own rows whose inner rows lie apart, told by tokens: made, appended to, stored into, frozen, handed out. No condition.
  The calculus, further: operations on rows with tokens, calls that hand out what lies apart, parts of rows handed on, calls that are walked in place. No condition.
  Functions that write marks into all numbers of a datum: their contracts, and the steps by which these are walked. No condition.
  The calculus, further: marks on data with tokens, calls walked in place, parts of rows handed on, more operations. No condition.
  The calculus, further: tokens of a part, copies, rows opened among orders, a row changed twice among orders, parts of rows handed on. No condition.
  The calculus, further: operations of a region that make memory, each apart from the others, in whatever order; calls of function values walked in place. No condition.
  The calculus, further: maps of the call's own, as lists of entries; shifts and bits; calls walked in place among orders. No condition.
  The calculus, further: ints of other kinds, texts out of bytes. No condition.
  Rows as cells alone; functions that turn an own row round. No condition.
  Functions that store through what they are handed: boxes and rows of the caller's go in, and come back with what they hold then. No condition.
  Arrays of numbers inside boxes: parts of them copied, read and written at an index. No condition.
  Ranges over a map, in whatever order its entries come. No condition.
  Tokens that go over one by one: a row with tokens is read from its begin on, and what is taken out takes its tokens along. No condition.
-/
import Derived.Test.YthndfocnlkkcoaaCore
import Derived.Laws.Small
import Derived.Lib.SliceRun
import Derived.Lib.AppendZerosOnto
import Derived.Laws.CopyRow
import Derived.Maps.RangeRun
namespace Go.Tc
open Go Go.RowKit
section
variable {R : Type} {P : Program} {n : Nat} {A : Nat → Prop} {w0 w : World} {Q : R → Exit → Act → World → Prop} {ρ ρ' : Env} {Γ Γ' : Ctx} {E : Option R}
variable {d : Option Nat} {ty : TypeId} {pos : String} {after : Array Edge} {g : Option (Nat × Bool)}

/-- A function value of one parameter that reads only and hands no memory out, in every world that has grown from w0. -/
def Clo (P : Program) (w0 : World) {α S : Type} [Rep α] (cv : Value) (φ : α → Option S) (val : S → Value) : Prop :=
  ∃ (f : FuncId) (caps : List Value), cv = .func (.func f) #[] caps.toArray ∧ (∀ args w, (callFunc f args).run P w = .ok (.enter f args) w) ∧
    ∀ w, Below w0.heap.size w0 w → ∀ (v : Value) (x : α) (r : S), Rd nowhere w v x → φ x = some r → Con P f (v :: caps) nowhere w (fun _ : Unit => val r) (fun _ => [])
theorem Clo.mk {α S : Type} [Rep α] {φ : α → Option S} {val : S → Value} {f : FuncId} {caps : List Value} (hf : ∀ args w, (callFunc f args).run P w = .ok (.enter f args) w)
    (h : ∀ w, Below w0.heap.size w0 w → ∀ (v : Value) (x : α) (r : S), Rd nowhere w v x → φ x = some r → Con P f (v :: caps) nowhere w (fun _ : Unit => val r) (fun _ => [])) : Clo P w0 (.func (.func f) #[] caps.toArray) φ val :=
  ⟨f, caps, rfl, hf, h⟩
theorem Clo.later {α S : Type} [Rep α] {cv : Value} {φ : α → Option S} {val : S → Value} (h : Clo P w0 cv φ val) (hb : Below w0.heap.size w0 w) : Clo P w cv φ val := by
  obtain ⟨f, caps, h1, h2, h3⟩ := h
  exact ⟨f, caps, h1, h2, fun w' hb' => h3 w' (hb.trans (hb'.mono hb.size))⟩
theorem RdA.later {α : Type} [Rep α] {w w' : World} {p : Value} {x : α} (h : RdA nowhere w.heap.size w p x) (hb : Below w.heap.size w w') : RdA nowhere w'.heap.size w' p x := by
  obtain ⟨b, off, cs, h1, h2, h3, h4⟩ := h
  exact ⟨b, off, cs, h1, Nat.lt_of_lt_of_le h2 hb.size, h3.frame (hb.block b h2), Rep.frame h4 fun k hk ha => ⟨hb.block k hk, ha⟩⟩
theorem SH.bx_pa1 {α : Type} [Rep α] {A' : Nat → Prop} {b : Nat} {t : TypeId} {c : Value} {x : α} (h : SH A w0 w Γ) (i : Nat) (hi : Γ[i]? = some (.bx b t [c])) (hx : Rd A' w c x) (ha : Rep.agg α = false) (hs : Rep.sz α = 1) : RdA A' w.heap.size w (.pointer (some ⟨b, 0, none⟩)) x := by
  have hb : w.heap[b]? = some (.cells #[c] t (0, 0)) := h.get i hi
  obtain ⟨cs', e, hr⟩ := hx
  have hl := Rep.len hr
  rw [hs] at hl
  match cs', hl with
  | [c'], _ =>
    simp only [Rep.val, ha, List.headD_cons] at e
    have e' : c = c' := by simpa using e
    subst e'
    refine ⟨b, 0, [c], rfl, ?_, ?_, hr⟩
    · exact (Array.getElem?_eq_some_iff.1 hb).1
    · intro j u hj
      rw [Nat.zero_add]
      exact cell_of_bx hb (by simpa using hj)
theorem ex_makeFunc {f : FuncId} {caps : List Operand} {vs : List Value} (hc : evL ρ caps = some vs) : Ex P n A w0 ρ Γ ⟨d, .makeFunc (.func f) #[] caps.toArray, ty, pos, after, g⟩ (.func (.func f) #[] vs.toArray) := by
  intro a w hs hh
  simp [execOp, Instr.makeFunc, hs.evalL hc]

theorem run_callv {a : Act} {d : Nat} {o : Operand} {f : FuncId} {args : List Operand} {ats : Array TypeId} {vs caps : List Value} (hs : Sat n ρ a)
    (hf : ∀ args w, (callFunc f args).run P w = .ok (.enter f args) w) (ho : ev ρ o = some (.func (.func f) #[] caps.toArray)) (hargs : evL ρ args = some vs) :
    (execOp a.eval ⟨some d, .call ⟨.value o, args.toArray, ats⟩, ty, pos, after, g⟩).run P w = .ok (.enter f (vs ++ caps).toArray) w := by
  simp [execOp, resolve, hs.eval ho, Deferred.ofValue, invoke, hs.evalL hargs, hf]
/-- A call of a function value that is known. -/
theorem JL_callv {ops : Array Oper} {rest : List Oper} {d : Nat} {o : Operand} {f : FuncId} {args : List Operand} {ats : Array TypeId} {vs caps : List Value} {G : Type} {v : G → Value} {Γ' : G → Ctx}
    (hw : Wants n ρ ops ⟨some d, .call ⟨.value o, args.toArray, ats⟩, ty, pos, after, g⟩) (hd : Nat.blt d n = true)
    (hf : ∀ args w, (callFunc f args).run P w = .ok (.enter f args) w) (ho : ev ρ o = some (.func (.func f) #[] caps.toArray)) (hargs : evL ρ args = some vs) (hC : Ca P A w0 Γ f (vs ++ caps) v Γ')
    (h : ∀ x, JL P n A w0 ops rest Q ((d, v x) :: ρ) (Γ' x) E) : JL P n A w0 ops (⟨some d, .call ⟨.value o, args.toArray, ats⟩, ty, pos, after, g⟩ :: rest) Q ρ Γ E := by
  intro r hr a w hs hh
  refine wpList_step fun K hK => ?_
  rw [hw a hs]
  simp only [if_true]
  unfold Oper.wp
  rw [run_callv hs hf ho hargs, Oper.upon_enter]
  refine (hC w hh).mono ?_
  rintro e w' ⟨x, rfl, hh', _⟩
  exact hK _ _ (h x r hr _ _ (hs.put (by simpa [Nat.blt_eq] using hd)) hh')
/-- What a call of a handed function value gives. -/
theorem Clo.ca {α S : Type} [Rep α] {cv v : Value} {φ : α → Option S} {val : S → Value} {y : α} {r : S} (hC : Clo P w0 cv φ val) (hrd : ∀ w, SH A w0 w Γ → Rd nowhere w v y) (hr : φ y = some r) :
    ∃ (f : FuncId) (caps : List Value), cv = .func (.func f) #[] caps.toArray ∧ (∀ args w, (callFunc f args).run P w = .ok (.enter f args) w) ∧ Ca P A w0 Γ f ([v] ++ caps) (fun _ : Unit => val r) (fun _ => Γ) := by
  obtain ⟨f, caps, h1, h2, h3⟩ := hC
  exact ⟨f, caps, h1, h2, Ca_of0 fun w hh => h3 w hh.below v y r (hrd w hh) hr⟩
theorem JL_clo {ops : Array Oper} {rest : List Oper} {d : Nat} {o a : Operand} {ats : Array TypeId} {α S : Type} [Rep α] {cv v : Value} {φ : α → Option S} {val : S → Value} {y : α} {r : S}
    (hw : Wants n ρ ops ⟨some d, .call ⟨.value o, #[a], ats⟩, ty, pos, after, g⟩) (hd : Nat.blt d n = true) (hC : Clo P w0 cv φ val) (ho : ev ρ o = some cv) (ha : ev ρ a = some v)
    (hrd : ∀ w, SH A w0 w Γ → Rd nowhere w v y) (hr : φ y = some r) (h : JL P n A w0 ops rest Q ((d, val r) :: ρ) Γ E) : JL P n A w0 ops (⟨some d, .call ⟨.value o, #[a], ats⟩, ty, pos, after, g⟩ :: rest) Q ρ Γ E := by
  obtain ⟨f, caps, rfl, hf, hca⟩ := hC.ca hrd hr
  exact JL_callv (args := [a]) hw hd hf ho (by simp [evL, ha]) hca (fun _ => h)
end
section
variable {R : Type} {P : Program} {n : Nat} {A : Nat → Prop} {w0 w1 : World} {Γ1 : Ctx} {ops : Array Oper} {O : List Nat} {fuel : Nat} {listed : Array Bool} {Q : R → Exit → Act → World → Prop} {ρ ρ' : Env} {Γ Γ' : Ctx} {E : Option R}
variable {ty : TypeId} {pos : String} {after : Array Edge} {g : Option (Nat × Bool)}
theorem JO_callv {i d : Nat} {o : Operand} {f : FuncId} {args : List Operand} {ats : Array TypeId} {vs caps : List Value} {G : Type} {v : G → Value} {Γ' : G → Ctx}
    (hi : ops[i]? = some ⟨some d, .call ⟨.value o, args.toArray, ats⟩, ty, pos, after, g⟩) (hw : Wants n ρ ops ⟨some d, .call ⟨.value o, args.toArray, ats⟩, ty, pos, after, g⟩) (hd : Nat.blt d n = true)
    (hf : ∀ args w, (callFunc f args).run P w = .ok (.enter f args) w) (ho : ev ρ o = some (.func (.func f) #[] caps.toArray)) (hargs : evL ρ args = some vs) (hC : Ca P A w0 Γ f (vs ++ caps) v Γ')
    (h : ∀ x, JD P n A w0 w1 Γ1 ops O fuel (listed.setIfInBounds i true) Q ((d, v x) :: ρ) (Γ' x) E) : JO P n A w0 w1 Γ1 ops O fuel listed Q i ρ Γ E := by
  intro r hr' a w hsa hh hg hon
  unfold wpOp
  simp only [hi, hw a hsa, if_true]
  refine .inl ?_
  unfold Oper.wp
  rw [run_callv hsa hf ho hargs, Oper.upon_enter]
  refine (hC w hh).mono ?_
  rintro e w' ⟨x, rfl, hh', hgr, hno⟩
  exact ⟨hg.more hgr (by simp), h x r hr' _ _ (hsa.put (by simpa [Nat.blt_eq] using hd)) hh' (hg.more hgr (by simp)) (hon.trans hg hno)⟩
theorem JO_clo {i d : Nat} {o a : Operand} {ats : Array TypeId} {α S : Type} [Rep α] {cv v : Value} {φ : α → Option S} {val : S → Value} {y : α} {r : S}
    (hi : ops[i]? = some ⟨some d, .call ⟨.value o, #[a], ats⟩, ty, pos, after, g⟩) (hw : Wants n ρ ops ⟨some d, .call ⟨.value o, #[a], ats⟩, ty, pos, after, g⟩) (hd : Nat.blt d n = true) (hC : Clo P w0 cv φ val) (ho : ev ρ o = some cv) (ha : ev ρ a = some v)
    (hrd : ∀ w, SH A w0 w Γ → Rd nowhere w v y) (hr : φ y = some r) (h : JD P n A w0 w1 Γ1 ops O fuel (listed.setIfInBounds i true) Q ((d, val r) :: ρ) Γ E) : JO P n A w0 w1 Γ1 ops O fuel listed Q i ρ Γ E := by
  obtain ⟨f, caps, rfl, hf, hca⟩ := hC.ca hrd hr
  exact JO_callv (args := [a]) hi hw hd hf ho (by simp [evL, ha]) hca (fun _ => h)
end
end Go.Tc
namespace Go.Tc
open Go Go.RowKit

/-- A datum with the blocks of its rows. -/
structure Tk (α : Type) where
  x : α
  B : List Nat
instance {α : Type} [Rep α] : Rep (Tk α) where
  sz := Rep.sz α
  agg := Rep.agg α
  rdc A w cs t := Rep.dc w cs t.x t.B ∧ ∀ b ∈ t.B, ¬ A b
  len h := Rep.len (Rep.dcr h.1 h.2)
  one h := Rep.one (Rep.dcr h.1 h.2)
  pos := Rep.pos
  single := Rep.single
  frame h hf := ⟨Rep.dcf h.1 fun b hb => (hf b (Rep.dlt h.1 b hb) (h.2 b hb)).1, fun b hb => (hf b (Rep.dlt h.1 b hb) (h.2 b hb)).2⟩
  dc w cs t B := Rep.dc w cs t.x B ∧ t.B = B
  dcf h hf := ⟨Rep.dcf h.1 hf, h.2⟩
  dcr h hA := ⟨by rw [h.2]; exact h.1, by rw [h.2]; exact hA⟩
  dlt h := Rep.dlt h.1
  flat := false
  flt h := by cases h

def tks {α : Type} (xs : List (Tk α)) : List Nat := xs.flatMap Tk.B
def dats {α : Type} (xs : List (Tk α)) : List α := xs.map Tk.x
theorem dats_length {α : Type} (xs : List (Tk α)) : (dats xs).length = xs.length := by simp [dats]
theorem DL.tk {α : Type} [Rep α] {A : Nat → Prop} {w : World} : ∀ (xs : List α) (cs : List Value) (B : List Nat), DL w cs xs B → (∀ b ∈ B, ¬ A b) → ∃ ts : List (Tk α), dats ts = xs ∧ tks ts = B ∧ RdL A w cs ts
  | [], _, _, h, _ => ⟨[], rfl, h.2.symm, h.1⟩
  | x :: r, _, _, ⟨c1, c2, B1, B2, e, eB, h1, h2⟩, hA => by
    subst eB
    obtain ⟨ts, e1, e2, h3⟩ := DL.tk r c2 B2 h2 fun b hb => hA b (by simp [hb])
    exact ⟨⟨x, B1⟩ :: ts, by simp [dats] at e1 ⊢; exact e1, by simp [tks] at e2 ⊢; exact e2, c1, c2, e, ⟨h1, fun b hb => hA b (by simp [hb])⟩, h3⟩
theorem RdL.untk {α : Type} [Rep α] {A : Nat → Prop} {w : World} : ∀ (ts : List (Tk α)) (cs : List Value), RdL A w cs ts → DL w cs (dats ts) (tks ts) ∧ ∀ b ∈ tks ts, ¬ A b
  | [], _, h => ⟨⟨h, rfl⟩, by simp [tks]⟩
  | t :: r, _, ⟨c1, c2, e, h1, h2⟩ => by
    obtain ⟨h3, h4⟩ := RdL.untk r c2 h2
    refine ⟨⟨c1, c2, t.B, tks r, e, rfl, h1.1, h3⟩, fun b hb => ?_⟩
    simp only [tks, List.flatMap_cons, List.mem_append] at hb
    rcases hb with hb | hb
    · exact h1.2 b hb
    · exact h4 b hb

/-! ### Contexts: facts spent -/
def kill : List Nat → Ctx → Ctx
  | [], Γ => Γ
  | j :: js, Γ => kill js (Γ.set j (.pr True))
section
variable {A : Nat → Prop} {w0 w w' : World} {Γ Γ' : Ctx}
theorem set_self {f : Fact} {i : Nat} (hi : Γ[i]? = some f) : Γ.set i f = Γ := by
  apply List.ext_getElem?
  intro j
  rw [List.getElem?_set]
  by_cases e : i = j
  · subst e
    rw [if_pos rfl, if_pos (List.getElem?_eq_some_iff.1 hi).1, hi]
  · rw [if_neg e]
theorem get_set {f : Fact} {i : Nat} (hlt : i < Γ.length) : (Γ.set i f)[i]? = some f := by simp [hlt]
theorem toks_perm {f f' : Fact} {i : Nat} (hi : Γ[i]? = some f) : (Ctx.toks (Γ.set i f')).Perm (f'.toks ++ Ctx.toks (Γ.set i (.pr True))) := by
  obtain ⟨l1, l2, _, e2⟩ := toks_set (f' := f') hi
  have hlt := (List.getElem?_eq_some_iff.1 hi).1
  obtain ⟨m1, m2, a1, a2⟩ := toks_set (Γ := Γ.set i f') (f := f') (f' := .pr True) (i := i) (get_set hlt)
  rw [List.set_set] at a2
  rw [a1, a2]
  simp only [Fact.toks, List.append_nil]
  exact (List.perm_append_comm.append_right m2).trans (by rw [List.append_assoc])
theorem toks_perm0 {f : Fact} {i : Nat} (hi : Γ[i]? = some f) : (Ctx.toks Γ).Perm (f.toks ++ Ctx.toks (Γ.set i (.pr True))) := by
  have := toks_perm (f' := f) hi
  rwa [set_self hi] at this
theorem sel_set_ne {f : Fact} {j : Nat} : ∀ (is : List Nat), (∀ i ∈ is, i ≠ j) → sel is (Γ.set j f) = sel is Γ
  | [], _ => rfl
  | i :: is, h => by
    have hi : i ≠ j := h i (by simp)
    simp only [sel, List.getElem?_set_ne (Ne.symm hi)]
    rw [sel_set_ne is fun k hk => h k (by simp [hk])]
theorem kill_toks : ∀ (js : List Nat) (Γ : Ctx), ndup js = true → Γ.toks.Perm ((sel js Γ).toks ++ (kill js Γ).toks)
  | [], Γ, _ => by simp [sel, kill, Ctx.toks]
  | j :: js, Γ, hn => by
    simp only [ndup, Bool.and_eq_true, Bool.not_eq_true', List.any_eq_false] at hn
    have hne : ∀ i ∈ js, i ≠ j := fun i hi e => hn.1 i hi (by subst e; exact Nat.beq_refl i)
    have ih := kill_toks js (Γ.set j (.pr True)) hn.2
    rw [sel_set_ne js hne] at ih
    simp only [sel, kill]
    cases hj : Γ[j]? with
    | none =>
      rw [List.set_eq_of_length_le (by simpa using hj)] at ih ⊢
      exact ih
    | some f =>
      refine (toks_perm0 hj).trans ?_
      simp only [Ctx.toks, List.flatMap_cons, List.append_assoc] at ih ⊢
      exact ih.append_left _
theorem kill_ne : ∀ (js : List Nat) (Γ : Ctx) (i : Nat), (∀ j ∈ js, j ≠ i) → (kill js Γ)[i]? = Γ[i]?
  | [], _, _, _ => rfl
  | j :: js, Γ, i, h => by
    simp only [kill]
    rw [kill_ne js _ i fun k hk => h k (by simp [hk]), List.getElem?_set_ne (h j (by simp))]
theorem SH.dead {f : Fact} {i : Nat} (h : SH A w0 w Γ) (hi : Γ[i]? = some f) : SH A w0 w (Γ.set i (.pr True)) :=
  h.set hi (Grow.refl w _) (by simp [Fact.owns]) (by simp [Fact.owns]) trivial
theorem SH.kill : ∀ (js : List Nat) {Γ : Ctx}, SH A w0 w Γ → SH A w0 w (kill js Γ)
  | [], _, h => h
  | j :: js, Γ, h => by
    refine SH.kill js ?_
    cases hj : Γ[j]? with
    | none => rw [List.set_eq_of_length_le (by simpa using hj)]; exact h
    | some f => exact h.dead hj
theorem owns_dead {i : Nat} : ∀ {b : Nat}, b ∈ Ctx.owns (Γ.set i (.pr True)) → b ∈ Γ.owns := by
  intro b hb
  cases hj : Γ[i]? with
  | none => rwa [List.set_eq_of_length_le (by simpa using hj)] at hb
  | some f =>
    obtain ⟨l1, l2, e1, e2⟩ := owns_set (f' := .pr True) hj
    rw [e2] at hb
    rw [e1]
    simp only [Fact.owns, List.append_nil, List.mem_append] at hb ⊢
    rcases hb with hb | hb
    · exact .inl (.inl hb)
    · exact .inr hb
theorem owns_kill : ∀ (js : List Nat) {Γ : Ctx} {b : Nat}, b ∈ Ctx.owns (Tc.kill js Γ) → b ∈ Γ.owns
  | [], _, _, h => h
  | _ :: js, _, _, h => owns_dead (owns_kill js h)
theorem kill_set : ∀ (js : List Nat) (Γ : Ctx) (i : Nat) (f : Fact), (∀ j ∈ js, j ≠ i) → Tc.kill js (Γ.set i f) = (Tc.kill js Γ).set i f
  | [], _, _, _, _ => rfl
  | j :: js, Γ, i, f, h => by
    simp only [Tc.kill]
    rw [List.set_comm _ _ (Ne.symm (h j (by simp))), kill_set js _ i f fun k hk => h k (by simp [hk])]

theorem owns_set_eq {f f' : Fact} {i : Nat} (hi : Γ[i]? = some f) (ho : f'.owns = f.owns) : Ctx.owns (Γ.set i f') = Γ.owns := by
  obtain ⟨l1, l2, e1, e2⟩ := owns_set (f' := f') hi
  rw [e1, e2, ho]
/-- A fact is told in other words: what it owns stays, what tokens it has are told. -/
theorem SH.retell {f f' : Fact} {i : Nat} (h : SH A w0 w Γ) (hi : Γ[i]? = some f) (ho : f'.owns = f.owns) (hf : f.holds (fun k => A k ∨ k ∈ Γ.owns) w0.heap.size w → f'.holds (fun k => A k ∨ k ∈ Γ.owns) w0.heap.size w)
    (htn : (Ctx.toks (Γ.set i f')).Nodup) (htg : ∀ b ∈ f'.toks, w0.heap.size ≤ b) : SH A w0 w (Γ.set i f') := by
  have hoo := owns_set_eq (f' := f') hi ho
  refine h.setT hi (Grow.refl w _) ?_ ?_ ?_ htn htg
  · rw [ho]; exact nodup_at h.nd hi
  · intro b hb
    rw [ho] at hb
    exact ⟨.inl hb, (h.ge b (List.mem_flatMap.2 ⟨f, List.mem_of_getElem? hi, hb⟩)).2⟩
  · rw [hoo]
    exact hf (h.get i hi)
theorem toks_less {f f' : Fact} {i : Nat} (hi : Γ[i]? = some f) (hf : f'.toks = []) (h : Γ.toks.Nodup) : (Ctx.toks (Γ.set i f')).Nodup := by
  obtain ⟨m1, m2, t1, t2⟩ := toks_set (f' := f') hi
  rw [t1] at h
  rw [t2, hf]
  exact nodup_mid h
theorem SH.od_down {α : Type} [Rep α] {e : TypeId} {v : Value} {xs : List α} {B : List Nat} (h : SH A w0 w Γ) (i : Nat) (hi : Γ[i]? = some (.od e v xs B)) :
    ∃ ts : List (Tk α), dats ts = xs ∧ (tks ts).Nodup ∧ (∀ b ∈ tks ts, b ∈ B) ∧ SH A w0 w (Γ.set i (.ow e v ts)) := by
  obtain ⟨⟨cells, B0, h1, h2, h4, h5⟩, h3⟩ := h.get i hi
  obtain ⟨ts, e1, e2, h6⟩ := DL.tk (A := fun k => A k ∨ k ∈ Γ.owns) _ _ _ h2 fun b hb => (h3 b (h5 b hb)).2
  refine ⟨ts, e1, by rw [e2]; exact h4, by rw [e2]; exact h5, h.retell hi rfl (fun _ => ⟨cells, ?_, h6⟩) (toks_less hi rfl h.tnd) (by simp [Fact.toks])⟩
  have : ts.length = xs.length := by rw [← e1, dats_length]
  rw [this]; exact h1
theorem SH.od_up {α : Type} [Rep α] {e : TypeId} {v : Value} {ts : List (Tk α)} {B : List Nat} (h : SH A w0 w Γ) (i : Nat) (hi : Γ[i]? = some (.ow e v ts)) (htk : (tks ts).Nodup) (hsub : ∀ b ∈ tks ts, b ∈ B)
    (hB : ∀ b ∈ B, w0.heap.size ≤ b ∧ b < w.heap.size ∧ b ∉ Γ.owns) (hnd : (B ++ Γ.toks).Nodup) : SH A w0 w (Γ.set i (.od e v (dats ts) B)) := by
  refine h.retell hi rfl ?_ ?_ (fun b hb => (hB b hb).1)
  · rintro ⟨cells, h1, h2⟩
    obtain ⟨h3, h4⟩ := RdL.untk _ _ h2
    refine ⟨⟨cells, tks ts, by rw [dats_length]; exact h1, h3, htk, hsub⟩, fun b hb => ⟨(hB b hb).2.1, ?_⟩⟩
    rintro (hk | hk)
    · have := h.av b hk
      have := (hB b hb).1
      omega
    · exact (hB b hb).2.2 hk
  · refine (toks_perm hi).nodup_iff.2 ?_
    refine ((toks_perm0 hi).append_left B).nodup_iff.1 hnd |>.sublist ?_
    exact List.Sublist.append (List.Sublist.refl _) (List.sublist_append_right _ _)
/-- The tokens are left. -/
theorem SH.od_ow {α : Type} [Rep α] {e : TypeId} {v : Value} {xs : List α} {B : List Nat} (h : SH A w0 w Γ) (i : Nat) (hi : Γ[i]? = some (.od e v xs B)) : SH A w0 w (Γ.set i (.ow e v xs)) := by
  obtain ⟨⟨cells, B0, h1, h2, h4, h5⟩, h3⟩ := h.get i hi
  exact h.retell hi rfl (fun _ => ⟨cells, h1, DL.rd _ _ _ h2 fun b hb => (h3 b (h5 b hb)).2⟩) (toks_less hi rfl h.tnd) (by simp [Fact.toks])

/-- A datum without rows. -/
def Nb {α : Type} [Rep α] (x : α) : Prop := ∀ A w cs, Rep.rdc A w cs x → Rep.dc w cs x []
theorem nb_flat {α : Type} [Rep α] (hf : Rep.flat α = true) (x : α) : Nb x := fun _ _ _ h => Rep.flt hf h
theorem nb_nil {α : Type} [Rep α] : Nb ([] : List α) := by
  rintro A w cs ⟨v, e, h⟩
  refine ⟨v, e, ?_⟩
  rcases h with ⟨_, h⟩ | ⟨b, off, cap, cells, h1, h2, h3, h4, h5, _⟩
  · exact .inl ⟨rfl, rfl, h⟩
  · exact .inl ⟨rfl, rfl, some ⟨b, off, none⟩, cap, h1, by simp, h5⟩
theorem RdL.nb {α : Type} [Rep α] {A : Nat → Prop} {w : World} : ∀ (xs : List α) (cs : List Value), (∀ x ∈ xs, Nb x) → RdL A w cs xs → DL w cs xs []
  | [], _, _, h => ⟨h, rfl⟩
  | x :: r, _, hn, ⟨c1, c2, e, h1, h2⟩ => ⟨c1, c2, [], [], e, rfl, hn x (by simp) _ _ _ h1, RdL.nb r c2 (fun y hy => hn y (by simp [hy])) h2⟩
theorem SH.ow_od {α : Type} [Rep α] {e : TypeId} {v : Value} {xs : List α} (h : SH A w0 w Γ) (i : Nat) (hi : Γ[i]? = some (.ow e v xs)) (hn : ∀ x ∈ xs, Nb x) : SH A w0 w (Γ.set i (.od e v xs [])) := by
  refine h.retell hi rfl ?_ (toks_less hi rfl h.tnd) (by simp [Fact.toks])
  rintro ⟨cells, h1, h2⟩
  exact ⟨⟨cells, [], h1, RdL.nb _ _ hn h2, by simp, by simp⟩, by simp⟩
theorem SH.ow_od_flat {α : Type} [Rep α] {e : TypeId} {v : Value} {xs : List α} (h : SH A w0 w Γ) (i : Nat) (hi : Γ[i]? = some (.ow e v xs)) (hf : Rep.flat α = true) : SH A w0 w (Γ.set i (.od e v xs [])) := h.ow_od i hi fun x _ => nb_flat hf x
theorem SH.od_nil {α : Type} [Rep α] (e : TypeId) (h : SH A w0 w Γ) : SH A w0 w (.od e (.slice none 0 0) ([] : List α) [] :: Γ) := (SH.ow_nil (α := α) e h).ow_od 0 rfl (by simp)

theorem OwD.dn {α : Type} [Rep α] {e : TypeId} {v : Value} {xs : List α} {B : List Nat} (h : OwD w e v xs B) (hb : ∀ b ∈ v.ownBlock.toList, b ∉ B) : Dn w v xs (v.ownBlock.toList ++ B) := by
  obtain ⟨cells, B0, ⟨hl, hown⟩, h2, h3, h4⟩ := h
  rcases hown with ⟨rfl, h0⟩ | ⟨g, cap, cur, rfl, _, hg, hnc, hcm, hcs, htake⟩
  · have hx : xs = [] := List.eq_nil_of_length_eq_zero h0
    subst hx
    exact ⟨[], ⟨[_], rfl, _, rfl, .inl ⟨rfl, rfl, none, 0, rfl, fun _ => rfl, Nat.zero_le _⟩⟩, by simp, by simp⟩
  · refine ⟨g :: B0, ⟨[_], rfl, _, rfl, .inr ⟨g, 0, cap, cells, B0, cur, e, rfl, hg, hnc, hcm, fun j u hj => ?_, h2, rfl⟩⟩, ?_, ?_⟩
    · rw [← htake, List.getElem?_take] at hj
      split at hj
      · simpa [World.cell?, hg] using hj
      · simp at hj
    · refine List.nodup_cons.2 ⟨fun hm => hb g (by simp [Value.ownBlock]) (h4 g hm), h3⟩
    · intro b hb'
      simp only [Value.ownBlock, Option.toList_some, List.cons_append, List.nil_append, List.mem_cons] at hb' ⊢
      exact hb'.imp id (h4 b)
/-- From now on it is only read, and its tokens are kept beside it. -/
theorem SH.tok {α : Type} [Rep α] {e : TypeId} {v : Value} {xs : List α} {B : List Nat} (h : SH A w0 w Γ) (i : Nat) (hi : Γ[i]? = some (.od e v xs B)) : SH A w0 w (.tkn v xs (v.ownBlock.toList ++ B) :: Γ.set i (.rd v xs)) := by
  have hlt := (List.getElem?_eq_some_iff.1 hi).1
  have h1 := h.od_ow i hi
  have h2 := h1.freeze i (get_set hlt)
  rw [List.set_set] at h2
  obtain ⟨hod, hB⟩ := h.get i hi
  have hown : ∀ b ∈ v.ownBlock.toList, b ∈ Γ.owns := fun b hb => List.mem_flatMap.2 ⟨_, List.mem_of_getElem? hi, hb⟩
  have hnB : ∀ b ∈ v.ownBlock.toList, b ∉ B := fun b hb hm => (hB b hm).2 (.inr (hown b hb))
  have hsub : ∀ b, b ∈ Ctx.owns (Γ.set i (.rd v xs)) → b ∈ Γ.owns := fun b hb => by
    have := freeze_owns (Γ := Γ.set i (.ow e v xs)) (e := e) (v := v) (xs := xs) (i := i) (get_set hlt) b (by rw [List.set_set]; exact hb)
    rwa [owns_set_eq (f' := .ow e v xs) hi rfl] at this
  have hnd0 : ∀ b ∈ v.ownBlock.toList, b ∉ Ctx.owns (Γ.set i (.rd v xs)) := by
    obtain ⟨l1, l2, e1, e2⟩ := owns_set (f' := .rd v xs) hi
    have hn := h.nd
    rw [e1] at hn
    simp only [Fact.owns, List.append_assoc, List.nodup_append] at hn
    intro b hb hm
    rw [e2] at hm
    simp only [Fact.owns, List.append_nil, List.mem_append] at hm
    rcases hm with hm | hm
    · exact hn.2.2 b hm b (by simp [hb]) rfl
    · exact hn.2.1.2.2 b hb b hm rfl
  refine h2.consT (Grow.refl w []) (by simp [Fact.owns]) (by simp [Fact.owns]) ⟨hod.dn hnB, fun b hb => ?_⟩ ?_ ?_
  · have ho : Ctx.owns (Fact.tkn v xs (v.ownBlock.toList ++ B) :: Γ.set i (.rd v xs)) = Ctx.owns (Γ.set i (.rd v xs)) := by simp [Ctx.owns, Fact.owns]
    rw [ho]
    rcases List.mem_append.1 hb with hb | hb
    · refine ⟨(h.ge b (hown b hb)).2, ?_⟩
      rintro (hk | hk)
      · have := h.av b hk
        have := (h.ge b (hown b hb)).1
        omega
      · exact hnd0 b hb hk
    · exact ⟨(hB b hb).1, fun hk => (hB b hb).2 (hk.imp id (hsub b))⟩
  · show ((v.ownBlock.toList ++ B) ++ Ctx.toks (Γ.set i (.rd v xs))).Nodup
    have hp := toks_perm0 hi
    have hpt : Ctx.toks (Γ.set i (.rd v xs)) = Ctx.toks (Γ.set i (.pr True)) := by
      obtain ⟨m1, m2, t1, t2⟩ := toks_set (f' := .rd v xs) hi
      have hq := toks_perm (f' := .rd v xs) hi
      obtain ⟨k1, k2, s1, s2⟩ := toks_set (Γ := Γ.set i (.rd v xs)) (f := .rd v xs) (f' := .pr True) (i := i) (get_set hlt)
      rw [List.set_set] at s2
      rw [s1, s2]; rfl
    rw [hpt, List.append_assoc, List.nodup_append]
    have hn := hp.nodup_iff.1 h.tnd
    refine ⟨?_, hn, ?_⟩
    · cases v.ownBlock <;> simp
    · rintro a ha b hb rfl
      have : a ∈ Γ.toks := hp.mem_iff.2 hb
      exact (h.tlt a this).2 (hown a ha)
  · intro b hb
    simp only [Fact.toks, List.mem_append] at hb
    rcases hb with hb | hb
    · exact (h.ge b (hown b hb)).1
    · exact h.tge b (List.mem_flatMap.2 ⟨_, List.mem_of_getElem? hi, hb⟩)
theorem tok_owns {α : Type} [Rep α] {e : TypeId} {v : Value} {xs : List α} {B : List Nat} {i : Nat} (hi : Γ[i]? = some (.od e v xs B)) : ∀ b ∈ Ctx.owns (Fact.tkn v xs (v.ownBlock.toList ++ B) :: Γ.set i (.rd v xs)), b ∈ Γ.owns := fun b hb => by
  have hb : b ∈ Ctx.owns (Γ.set i (.rd v xs)) := by simpa [Ctx.owns, Fact.owns] using hb
  obtain ⟨l1, l2, e1, e2⟩ := owns_set (f' := .rd v xs) hi
  rw [e2] at hb
  rw [e1]
  simp only [Fact.owns, List.append_nil, List.mem_append] at hb ⊢
  rcases hb with hb | hb
  · exact .inl (.inl hb)
  · exact .inr hb
theorem SH.tokf {α : Type} [Rep α] {e : TypeId} {v : Value} {xs : List α} (h : SH A w0 w Γ) (i : Nat) (hi : Γ[i]? = some (.ow e v xs)) (hf : Rep.flat α = true) : SH A w0 w (.tkn v xs (v.ownBlock.toList ++ []) :: Γ.set i (.rd v xs)) := by
  have h1 := h.ow_od_flat i hi hf
  have hlt := (List.getElem?_eq_some_iff.1 hi).1
  have := h1.tok i (get_set hlt)
  rwa [List.set_set] at this
theorem tokf_owns {α : Type} [Rep α] {e : TypeId} {v : Value} {xs : List α} {i : Nat} (hi : Γ[i]? = some (.ow e v xs)) : ∀ b ∈ Ctx.owns (Fact.tkn v xs (v.ownBlock.toList ++ []) :: Γ.set i (.rd v xs)), b ∈ Γ.owns := fun b hb => by
  have hb : b ∈ Ctx.owns (Γ.set i (.rd v xs)) := by simpa [Ctx.owns, Fact.owns] using hb
  exact freeze_owns hi b hb
theorem Dn.rd {α : Type} [Rep α] {v : Value} {x : α} {B : List Nat} (h : Dn w v x B) (hA : ∀ b ∈ B, ¬ A b) : Rd A w v x := by
  obtain ⟨B0, h1, _, h2⟩ := h
  exact h1.rd fun b hb => hA b (h2 b hb)
theorem SH.tkn_rd {α : Type} [Rep α] {v : Value} {x : α} {B : List Nat} (h : SH A w0 w Γ) (i : Nat) (hi : Γ[i]? = some (.tkn v x B)) : SH A w0 w (.rd v x :: Γ) := by
  obtain ⟨h1, h2⟩ := h.get i hi
  exact h.cons_rd (h1.rd fun b hb => (h2 b hb).2)
theorem SH.od0 {α : Type} [Rep α] {e : TypeId} {v : Value} {xs : List α} {B : List Nat} (h : SH A w0 w Γ) (i : Nat) (hi : Γ[i]? = some (.od e v xs B)) : Rd nowhere w v xs :=
  (h.od_ow i hi).ow0 i (get_set (List.getElem?_eq_some_iff.1 hi).1)

/-! ### What is handed out in full -/
def Fact.robust : Fact → Bool
  | @Fact.ow α inst _ _ _ => @Rep.flat α inst
  | @Fact.od _ _ _ _ _ _ => true
  | @Fact.tkn _ _ _ _ _ => true
  | .bx _ _ _ => true
  | .pr _ => true
  | _ => false
theorem Fact.robust_frame {A A' : Nat → Prop} {n : Nat} {f : Fact} (hr : f.robust = true) (h : f.holds A n w) (hb : ∀ b ∈ f.owns, w'.heap[b]? = w.heap[b]?) (ht : ∀ b ∈ f.toks, w'.heap[b]? = w.heap[b]? ∧ ¬ A' b) : f.holds A' n w' := by
  cases f with
  | ow e v xs =>
    obtain ⟨cells, h1, h2⟩ := h
    exact ⟨cells, ownsRow_frame h1 hb, DL.rd _ _ _ (DL.frame _ _ _ (DL.flat hr _ _ h2) (by simp)) (by simp)⟩
  | od e v xs B =>
    obtain ⟨⟨cells, B0, h1, h2, h3, h4⟩, h5⟩ := h
    exact ⟨⟨cells, B0, ownsRow_frame h1 hb, DL.frame _ _ _ h2 fun b hb => (ht b (h4 b hb)).1, h3, h4⟩, fun b hb => ⟨lt_of_heap (ht b hb).1 (h5 b hb).1, (ht b hb).2⟩⟩
  | tkn v x B =>
    obtain ⟨⟨B0, h1, h3, h4⟩, h5⟩ := h
    exact ⟨⟨B0, h1.frame fun b hb => (ht b (h4 b hb)).1, h3, h4⟩, fun b hb => ⟨lt_of_heap (ht b hb).1 (h5 b hb).1, (ht b hb).2⟩⟩
  | bx b t cs =>
    have := hb b (by simp [Fact.owns])
    simp only [Fact.holds] at h ⊢
    rw [this, h]
  | pr p => exact h
  | _ => simp [Fact.robust] at hr
/-- What a callee leaves, joined to what the caller has: it lies apart from all that the caller has. -/
theorem SH.join_self {Δ : Ctx} (h : SH A w0 w Γ) (k : SH nowhere w w' Δ) (hp : Δ.all Fact.robust = true) : SH A w0 w' (Δ ++ Γ) := by
  have ho : Ctx.owns (Δ ++ Γ) = Δ.owns ++ Γ.owns := by simp [Ctx.owns]
  have ht : Ctx.toks (Δ ++ Γ) = Δ.toks ++ Γ.toks := by simp [Ctx.toks]
  have hg : Grow w w' [] := Grow.of_below k.below []
  have h2 := h.grow hg
  refine ⟨h2.below, h.av, ?_, ?_, ?_, ?_, ?_⟩
  · rw [ho, List.nodup_append]
    refine ⟨k.nd, h.nd, fun a ha b hb e => ?_⟩
    subst e
    have h1 := (k.ge a ha).1
    have h3 := (h.ge a hb).2
    omega
  · intro b hb
    rw [ho] at hb
    rcases List.mem_append.1 hb with hb | hb
    · exact ⟨Nat.le_trans h.lt (k.ge b hb).1, (k.ge b hb).2⟩
    · exact h2.ge b hb
  · rw [ht, List.nodup_append]
    refine ⟨k.tnd, h.tnd, fun a ha b hb e => ?_⟩
    subst e
    have h1 := k.tge a ha
    have h3 := (h.tlt a hb).1
    omega
  · intro b hb
    rw [ht] at hb
    rcases List.mem_append.1 hb with hb | hb
    · exact Nat.le_trans h.lt (k.tge b hb)
    · exact h.tge b hb
  · intro f hf
    rcases List.mem_append.1 hf with hf | hf
    · have hk := k.all f hf
      have hr := List.all_eq_true.1 hp f hf
      refine (?_ : f.holds (fun k => A k ∨ k ∈ Ctx.owns (Δ ++ Γ)) w0.heap.size w')
      have hk' : f.holds (fun k => A k ∨ k ∈ Ctx.owns (Δ ++ Γ)) w.heap.size w' := by
        refine Fact.robust_frame hr hk (fun _ _ => rfl) fun b hb => ⟨rfl, ?_⟩
        have hbt : b ∈ Δ.toks := List.mem_flatMap.2 ⟨f, hf, hb⟩
        have h1 := k.tge b hbt
        rintro (hA | hO)
        · have := h.av b hA
          have := h.lt
          omega
        · rw [ho] at hO
          rcases List.mem_append.1 hO with hO | hO
          · exact (k.tlt b hbt).2 hO
          · have := (h.ge b hO).2; omega
      cases f with
      | pa p x => simp [Fact.robust] at hr
      | _ => exact hk'
    · refine Fact.frame hg.size (h.all f hf) (fun b hb => hg.block b (h.ge b (List.mem_flatMap.2 ⟨f, hf, hb⟩)).2 (by simp)) (fun j hj => hg.block j (Nat.lt_of_lt_of_le hj h.lt) (by simp)) (fun j hj ha => ⟨hg.block j hj (by simp), ?_⟩)
      rintro (hj' | hj')
      · exact ha (.inl hj')
      · rw [ho] at hj'
        rcases List.mem_append.1 hj' with hj' | hj'
        · have := (k.ge j hj').1; omega
        · exact ha (.inr hj')
end
end Go.Tc
namespace Go.Tc
open Go Go.RowKit

/-- What a value with tokens is: B are the tokens at hand, C those that are left. -/
def Dw {α : Type} [Rep α] (w : World) (v : Value) (x : α) (B C : List Nat) : Prop := B.Nodup → ∃ B0, Dc w v x B0 ∧ B0.Nodup ∧ (∀ b ∈ B0, b ∈ B ∧ b ∉ C) ∧ C.Sublist B
theorem dw_int {w : World} {x : Int} {C : List Nat} : Dw w (.int .i64 x) x C C := fun _ => ⟨[], ⟨_, rfl, rfl, rfl⟩, by simp, by simp, List.Sublist.refl _⟩
theorem dw_bool {w : World} {x : Bool} {C : List Nat} : Dw w (.bool x) x C C := fun _ => ⟨[], ⟨_, rfl, rfl, rfl⟩, by simp, by simp, List.Sublist.refl _⟩
theorem dw_str {w : World} {x : ByteArray} {C : List Nat} : Dw w (.string x) x C C := fun _ => ⟨[], ⟨_, rfl, rfl, rfl⟩, by simp, by simp, List.Sublist.refl _⟩
theorem dn_nil {α : Type} [Rep α] {w : World} {B : List Nat} : Dn w (.slice none 0 0) ([] : List α) B := ⟨[], ⟨[_], rfl, _, rfl, .inl ⟨rfl, rfl, none, 0, rfl, fun _ => rfl, Nat.zero_le _⟩⟩, by simp, by simp⟩
theorem dw_nil {α : Type} [Rep α] {w : World} {C : List Nat} : Dw w (.slice none 0 0) ([] : List α) C C := fun _ => ⟨[], ⟨[_], rfl, _, rfl, .inl ⟨rfl, rfl, none, 0, rfl, fun _ => rfl, Nat.zero_le _⟩⟩, by simp, by simp, List.Sublist.refl _⟩
theorem Dc.cell {α : Type} [Rep α] {w : World} {v : Value} {x : α} {B : List Nat} (h : Dc w v x B) (ha : Rep.agg α = false) : Rep.dc w [v] x B := by
  obtain ⟨cs, rfl, hr⟩ := h
  have hl := Rep.len (Rep.dcr (A := nowhere) hr fun _ _ hk => hk)
  rw [Rep.single ha] at hl
  match cs, hl with
  | [c], _ => simpa [Rep.val, ha] using hr
/-- Two parts, one behind the other. -/
theorem Dw.two {α β : Type} [Rep α] [Rep β] {w : World} {v u : Value} {x : α} {y : β} {B C D : List Nat} (h : Dw w v x B C) (k : Dw w u y C D) (hn : B.Nodup) :
    ∃ B1 B2, Dc w v x B1 ∧ Dc w u y B2 ∧ (B1 ++ B2).Nodup ∧ (∀ b ∈ B1 ++ B2, b ∈ B ∧ b ∉ D) ∧ D.Sublist B := by
  obtain ⟨B1, h1, h2, h3, h4⟩ := h hn
  obtain ⟨B2, k1, k2, k3, k4⟩ := k (hn.sublist h4)
  refine ⟨B1, B2, h1, k1, ?_, ?_, k4.trans h4⟩
  · rw [List.nodup_append]
    exact ⟨h2, k2, fun a ha b hb e => (h3 a ha).2 (e ▸ (k3 b hb).1)⟩
  · intro b hb
    rcases List.mem_append.1 hb with hb | hb
    · exact ⟨(h3 b hb).1, fun hd => (h3 b hb).2 (k4.subset hd)⟩
    · exact ⟨h4.subset (k3 b hb).1, (k3 b hb).2⟩
theorem Dw.three {α β γ : Type} [Rep α] [Rep β] [Rep γ] {w : World} {v u t : Value} {x : α} {y : β} {z : γ} {B C D F : List Nat} (h : Dw w v x B C) (k : Dw w u y C D) (l : Dw w t z D F) (hn : B.Nodup) :
    ∃ B1 B2 B3, Dc w v x B1 ∧ Dc w u y B2 ∧ Dc w t z B3 ∧ (B1 ++ B2 ++ B3).Nodup ∧ (∀ b ∈ B1 ++ B2 ++ B3, b ∈ B ∧ b ∉ F) ∧ F.Sublist B := by
  obtain ⟨B1, B2, h1, h2, h3, h4, h5⟩ := h.two k hn
  obtain ⟨B3, l1, l2, l3, l4⟩ := l (hn.sublist h5)
  refine ⟨B1, B2, B3, h1, h2, l1, ?_, ?_, l4.trans h5⟩
  · rw [List.nodup_append]
    exact ⟨h3, l2, fun a ha b hb e => (h4 a ha).2 (e ▸ (l3 b hb).1)⟩
  · intro b hb
    rcases List.mem_append.1 hb with hb | hb
    · exact ⟨(h4 b hb).1, fun hd => (h4 b hb).2 (l4.subset hd)⟩
    · exact ⟨h5.subset (l3 b hb).1, (l3 b hb).2⟩
/-- Values of a literal, with tokens. -/
def DwV {α : Type} [Rep α] (w : World) : List Value → List α → List Nat → Prop
  | [], [], _ => True
  | v :: vs, x :: xs, B => ∃ C, Dw w v x B C ∧ DwV w vs xs C
  | _, _, _ => False
theorem dwv_cons {α : Type} [Rep α] {w : World} {v : Value} {x : α} {vs : List Value} {xs : List α} {B C : List Nat} (h : Dw w v x B C) (k : DwV w vs xs C) : DwV w (v :: vs) (x :: xs) B := ⟨C, h, k⟩
theorem dwv_nil {α : Type} [Rep α] {w : World} : DwV w [] ([] : List α) [] := trivial
theorem DwV.tk {α : Type} [Rep α] {A : Nat → Prop} {w : World} : ∀ (vs : List Value) (xs : List α) (B : List Nat), DwV w vs xs B → B.Nodup → (∀ b ∈ B, ¬ A b) → ∃ ts : List (Tk α), dats ts = xs ∧ (tks ts).Nodup ∧ (∀ b ∈ tks ts, b ∈ B) ∧ RdV A w vs ts
  | [], [], _, _, _, _ => ⟨[], rfl, by simp [tks], by simp [tks], trivial⟩
  | v :: vs, x :: xs, B, ⟨C, h, k⟩, hn, hA => by
    obtain ⟨B0, ⟨cs, e1, h1⟩, h2, h3, h4⟩ := h hn
    obtain ⟨ts, e2, e3, e4, e5⟩ := DwV.tk (A := A) vs xs C k (hn.sublist h4) fun b hb => hA b (h4.subset hb)
    refine ⟨⟨x, B0⟩ :: ts, by simp [dats] at e2 ⊢; exact e2, ?_, ?_, ⟨cs, e1, h1, fun b hb => hA b (h3 b hb).1⟩, e5⟩
    · simp only [tks, List.flatMap_cons, List.nodup_append]
      exact ⟨h2, e3, fun a ha b hb e => (h3 a ha).2 (e ▸ e4 b hb)⟩
    · intro b hb
      simp only [tks, List.flatMap_cons, List.mem_append] at hb
      exact hb.elim (fun hb => (h3 b hb).1) (fun hb => h4.subset (e4 b hb))
  | [], _ :: _, _, h, _, _ => h.elim
  | _ :: _, [], _, h, _, _ => h.elim

section
variable {R : Type} {P : Program} {n : Nat} {A : Nat → Prop} {w0 w w' : World} {Q : R → Exit → Act → World → Prop} {ρ ρ' : Env} {Γ Γ' : Ctx} {E : Option R}
variable {d : Option Nat} {ty : TypeId} {pos : String} {after : Array Edge} {g : Option (Nat × Bool)}

theorem SH.dw {α : Type} [Rep α] {v : Value} {x : α} {B C : List Nat} (h : SH A w0 w Γ) (i : Nat) (hi : Γ[i]? = some (.tkn v x B)) : Dw w v x (B ++ C) C := fun hn => by
  obtain ⟨B0, h1, h2, h3⟩ := (h.get i hi).1
  rw [List.nodup_append] at hn
  exact ⟨B0, h1, h2, fun b hb => ⟨by simp [h3 b hb], fun hc => hn.2.2 b (h3 b hb) b hc rfl⟩, List.sublist_append_right _ _⟩
theorem mke_nb {α : Type} [Rep α] {k : Int} {z : α} {xs : List α} (h : mke k z = some xs) (hz : Nb z) : ∀ x ∈ xs, Nb x := fun x hx => by
  rw [(mke_eq h).2.2] at hx
  rw [List.eq_of_mem_replicate hx]
  exact hz
theorem od_ow_owns {α : Type} [Rep α] {e : TypeId} {v : Value} {xs : List α} {B : List Nat} {i : Nat} (hi : Γ[i]? = some (.od e v xs B)) : ∀ b ∈ Ctx.owns (Γ.set i (.ow e v xs)), b ∈ Γ.owns := fun b hb => by
  rwa [owns_set_eq (f' := .ow e v xs) hi rfl] at hb
theorem ow_od_owns {α : Type} [Rep α] {e : TypeId} {v : Value} {xs : List α} {i : Nat} (hi : Γ[i]? = some (.ow e v xs)) : ∀ b ∈ Ctx.owns (Γ.set i (.od e v xs [])), b ∈ Γ.owns := fun b hb => by
  rwa [owns_set_eq (f' := .od e v xs []) hi rfl] at hb
/-- What tokens are spent: they are fresh, not owned, and different from those that are left. -/
theorem SH.spent (h : SH A w0 w Γ) {js : List Nat} {B : List Nat} (hB : (Tc.sel js Γ).toks = B) : ∀ b ∈ B, w0.heap.size ≤ b ∧ b < w.heap.size ∧ b ∉ Γ.owns := fun b hb => by
  have hb' : b ∈ Γ.toks := sel_toks js Γ b (by rw [hB]; exact hb)
  exact ⟨h.tge b hb', h.tlt b hb'⟩
theorem SH.spent_av (h : SH A w0 w Γ) {B : List Nat} (hB : ∀ b ∈ B, w0.heap.size ≤ b ∧ b < w.heap.size ∧ b ∉ Γ.owns) : ∀ b ∈ B, ¬ (A b ∨ b ∈ Γ.owns) := fun b hb hk => by
  obtain ⟨h1, _, h3⟩ := hB b hb
  rcases hk with hk | hk
  · have := h.av b hk; omega
  · exact h3 hk
/-- A slice literal whose parts have tokens (js): these are spent. -/
theorem st_buildSlice_od {α : Type} [Rep α] {t e : TypeId} {len : Nat} {ag : Bool} {z : Value} {parts : List (Nat × Operand)} {vs : List Value} {B : List Nat} (xs : List α) (js : List Nat) (ht : P.underlying t = some (.slice e)) (he : tinf P e = some (Rep.sz α, ag)) (hz : zinf P e = some z)
    (hparts : evP ρ parts = some (enumP 0 vs)) (hlen : xs.length = len) (hmax : Nat.ble (len * Rep.sz α) 16777216 = true) (hn : ndup js = true) (hB : (sel js Γ).toks = B) (hx : ∀ w, SH A w0 w Γ → DwV w vs xs B) :
    St P n A w0 ρ Γ ⟨d, .buildSlice t len parts.toArray, ty, pos, after, g⟩ (fun b : Nat => .slice (some ⟨b, 0, none⟩) len len) (fun b => .od e (.slice (some ⟨b, 0, none⟩) len len) xs B :: kill js Γ) [] := by
  intro a w hs hh
  have hsp := hh.spent hB
  have hp := kill_toks js Γ hn
  have hnB : B.Nodup := by
    have := hp.nodup_iff.1 hh.tnd
    rw [hB, List.nodup_append] at this
    exact this.1
  obtain ⟨ts, e1, e2, e3, e4⟩ := DwV.tk vs xs B (hx w hh) hnB (hh.spent_av hsp)
  have hl : ts.length = len := by rw [← hlen, ← e1, dats_length]
  have hh2 := hh.kill js
  have e4' : RdV (fun k => A k ∨ k ∈ (kill js Γ).owns) w vs ts := by
    have : ∀ (vs : List Value) (ts : List (Tk α)), RdV (fun k => A k ∨ k ∈ Γ.owns) w vs ts → RdV (fun k => A k ∨ k ∈ (kill js Γ).owns) w vs ts := by
      intro vs
      induction vs with
      | nil => intro ts h; cases ts <;> exact h
      | cons v vs ih =>
        intro ts h
        cases ts with
        | nil => exact h
        | cons t ts => exact ⟨Rd.weak h.1 fun k hk => hk.imp id (owns_kill js), ih ts h.2⟩
    exact this vs ts e4
  obtain ⟨b, w', hrun, h1, h2, h3⟩ := at_buildSlice (d := d) (ty := ty) (pos := pos) (after := after) (g := g) ts ht he hz hparts hl hmax e4' a hs hh2
  have hsub : ∀ c, c ∈ Ctx.owns (.ow e (.slice (some ⟨b, 0, none⟩) len len) ts :: kill js Γ) → c ∈ Γ.owns ∨ w.heap.size ≤ c := fun c hc => (h3 c hc).imp (owns_kill js) id
  refine ⟨b, w', hrun, ?_, h2, ?_⟩
  · have := h1.od_up (B := B) 0 rfl e2 e3 (fun c hc => ⟨(hsp c hc).1, Nat.lt_of_lt_of_le (hsp c hc).2.1 h2.size, fun hm => ?_⟩) ?_
    · rw [e1] at this
      exact this
    · rcases hsub c hm with hm | hm
      · exact (hsp c hc).2.2 hm
      · have := (hsp c hc).2.1; omega
    · rw [hB] at hp
      exact hp.nodup_iff.1 hh.tnd
  · intro c hc
    exact hsub c (by simpa [Ctx.owns, Fact.owns] using hc)
/-- append of a row with tokens (at j) to a row with tokens (at i). -/
theorem st_append_od {α : Type} [Rep α] {x y : Operand} {t e : TypeId} {ag : Bool} {z : Value} {bytes : Nat} {v u : Value} {xs ys zs : List α} {B1 B2 : List Nat} (i j : Nat) (ht : P.underlying t = some (.slice e)) (he : tinf P e = some (Rep.sz α, ag)) (hz : zinf P e = some z) (hzs : z.cells.size = Rep.sz α) (hb : binf P e = some bytes) (hby : Nat.ble bytes 128 = true)
    (hx : ev ρ x = some v) (hy : ev ρ y = some u) (hi : Γ[i]? = some (.od e v xs B1)) (hj : Γ[j]? = some (.od e u ys B2)) (hij : Nat.beq j i = false) (ha : app xs ys = some zs) :
    St P n A w0 ρ Γ ⟨d, .call ⟨.builtin .append, #[x, y], #[t, t]⟩, ty, pos, after, g⟩ (fun v' : Value => v') (fun v' => (Γ.set i (.od e v' zs (B1 ++ B2))).set j (.pr True)) v.ownBlock.toList := by
  intro a w hs hh
  have hne : j ≠ i := fun e => by subst e; simp at hij
  have hli := (List.getElem?_eq_some_iff.1 hi).1
  obtain ⟨ts, e1, e2, e3, h1⟩ := hh.od_down i hi
  obtain ⟨us, f1, f2, f3, h2⟩ := hh.od_down j hj
  have hso : Src (fun k => A k ∨ k ∈ Ctx.owns (Γ.set i (.ow e v ts))) w u us := by
    have hg := h2.get j (get_set (List.getElem?_eq_some_iff.1 hj).1)
    have ho : Ctx.owns (Γ.set j (.ow e u us)) = Γ.owns := owns_set_eq hj rfl
    have ho' : Ctx.owns (Γ.set i (.ow e v ts)) = Γ.owns := owns_set_eq hi rfl
    rw [ho'] 
    rw [ho] at hg
    exact Ow.src hg
  obtain ⟨rfl, hlim⟩ := app_eq ha
  have ha' : app ts us = some (ts ++ us) := by
    have l1 : ts.length = xs.length := by rw [← e1, dats_length]
    have l2 : us.length = ys.length := by rw [← f1, dats_length]
    unfold app
    rw [if_pos (by rw [l1, l2]; exact hlim)]
  obtain ⟨v', w', hrun, h3, h4, h5⟩ := SH.append (P := P) (ty := ty) i h1 (get_set hli) hso ht he hz hzs hb hby ha'
  rw [List.set_set] at h3 h5
  have hoi : Ctx.owns (Γ.set i (.ow e v ts)) = Γ.owns := owns_set_eq hi rfl
  have hsub : ∀ c, c ∈ Ctx.owns (Γ.set i (.ow e v' (ts ++ us))) → c ∈ Γ.owns ∨ w.heap.size ≤ c := fun c hc => by
    have := h5 c hc
    rwa [hoi] at this
  have hjj : (Γ.set i (.ow e v' (ts ++ us)))[j]? = some (.od e u ys B2) := by rw [List.getElem?_set_ne (Ne.symm hne)]; exact hj
  have h6 := h3.dead hjj
  have hii : ((Γ.set i (.ow e v' (ts ++ us))).set j (.pr True))[i]? = some (.ow e v' (ts ++ us)) := by
    rw [List.getElem?_set_ne hne]
    exact get_set hli
  have hbnd : ∀ c ∈ B1 ++ B2, c ∈ Γ.toks := fun c hc => by
    rcases List.mem_append.1 hc with hc | hc
    · exact List.mem_flatMap.2 ⟨_, List.mem_of_getElem? hi, hc⟩
    · exact List.mem_flatMap.2 ⟨_, List.mem_of_getElem? hj, hc⟩
  have h7 := h6.od_up (B := B1 ++ B2) i hii ?_ ?_ ?_ ?_
  · have ed : dats (ts ++ us) = xs ++ ys := by rw [← e1, ← f1]; simp [dats]
    rw [ed, List.set_comm _ _ hne, List.set_set] at h7
    refine ⟨v', w', ?_, h7, h4, fun c hc => ?_⟩
    · simp [execOp, resolve, invoke, builtin, hs.eval hx, hs.eval hy, hrun]
    · have hc := owns_dead hc
      have : Ctx.owns (Γ.set i (.od e v' (xs ++ ys) (B1 ++ B2))) = Ctx.owns (Γ.set i (.ow e v' (ts ++ us))) := by
        have := owns_set_eq (Γ := Γ.set i (.ow e v' (ts ++ us))) (f' := .od e v' (xs ++ ys) (B1 ++ B2)) (get_set hli) rfl
        rwa [List.set_set] at this
      rw [this] at hc
      exact hsub c hc
  · simp only [tks, List.flatMap_append, List.nodup_append]
    refine ⟨e2, f2, fun a ha b hb hab => ?_⟩
    subst hab
    exact nodup_twoG (g := Fact.toks) hh.tnd hi hj (Ne.symm hne) (e3 a ha) (f3 a hb)
  · intro c hc
    simp only [tks, List.flatMap_append, List.mem_append] at hc ⊢
    exact hc.imp (e3 c) (f3 c)
  · intro c hc
    have hc' := hbnd c hc
    refine ⟨hh.tge c hc', Nat.lt_of_lt_of_le (hh.tlt c hc').1 h4.size, fun hm => ?_⟩
    rcases hsub c (owns_dead hm) with hm | hm
    · exact (hh.tlt c hc').2 hm
    · have := (hh.tlt c hc').1; omega
  · have p1 := toks_perm0 hi
    have hj2 : (Γ.set i (.pr True))[j]? = some (.od e u ys B2) := by rw [List.getElem?_set_ne (Ne.symm hne)]; exact hj
    have p2 := toks_perm0 hj2
    have p3 := p1.trans (p2.append_left B1)
    have p4 := toks_perm0 hii
    simp only [Fact.toks, List.nil_append] at p4
    have e5 : (((Γ.set i (.ow e v' (ts ++ us))).set j (.pr True)).set i (.pr True)) = (Γ.set i (.pr True)).set j (.pr True) := by
      rw [List.set_comm _ _ hne, List.set_set]
    rw [e5] at p4
    have p5 := p4.append_left (B1 ++ B2)
    rw [List.append_assoc B1 B2 (Ctx.toks ((Γ.set i (.pr True)).set j (.pr True)))] at p5
    exact p5.nodup_iff.2 (p3.nodup_iff.1 hh.tnd)
/-- A store into a row with tokens; the datum's tokens (js) are spent. -/
theorem sk_store_od {α : Type} [Rep α] {x y : Operand} {t e : TypeId} {ag : Bool} {b cap len : Nat} {xs : List α} {j : Int} {o y' : α} {u : Value} {B B2 : List Nat} (i : Nat) (js : List Nat) (ht : tinf P t = some (Rep.sz α, ag)) (hx : ev ρ x = some (.pointer (some ⟨b, j.toNat * Rep.sz α, none⟩))) (hy : ev ρ y = some u)
    (hi : Γ[i]? = some (.od e (.slice (some ⟨b, 0, none⟩) len cap) xs B)) (hj : idx xs j = some o) (hn : ndup (i :: js) = true) (hB : (sel js Γ).toks = B2) (hu : ∀ w, SH A w0 w Γ → Dw w u y' B2 []) :
    Sk P n A w0 ρ Γ ⟨d, .store t x y, ty, pos, after, g⟩ (kill js (Γ.set i (.od e (.slice (some ⟨b, 0, none⟩) len cap) (xs.set j.toNat y') (B ++ B2)))) [b] := by
  intro a w hs hh
  have hn' := hn
  simp only [ndup, Bool.and_eq_true, Bool.not_eq_true', List.any_eq_false] at hn'
  have hne : ∀ k ∈ js, k ≠ i := fun k hk e => hn'.1 k hk (by subst e; exact Nat.beq_refl k)
  have hli := (List.getElem?_eq_some_iff.1 hi).1
  have hp := kill_toks js Γ hn'.2
  have hnB : B2.Nodup := by
    have := hp.nodup_iff.1 hh.tnd
    rw [hB, List.nodup_append] at this
    exact this.1
  obtain ⟨B0, ⟨cs, k1, k2⟩, k3, k4', _⟩ := hu w hh hnB
  have k4 : ∀ b ∈ B0, b ∈ B2 := fun b hb => (k4' b hb).1
  obtain ⟨ts, e1, e2, e3, h1⟩ := hh.od_down i hi
  have hoi : Ctx.owns (Γ.set i (.ow e (.slice (some ⟨b, 0, none⟩) len cap) ts)) = Γ.owns := owns_set_eq hi rfl
  have hsp := hh.spent hB
  have hjt : idx ts j = some (ts[j.toNat]'(by
      have := (idx_eq hj).2.1
      rw [← e1, dats_length] at this
      exact this)) := by
    have h0 := (idx_eq hj).1
    unfold idx
    rw [if_neg (by omega), List.getElem?_eq_getElem]
  obtain ⟨w', hrun, h2, h3, h4⟩ := at_store_ow (P := P) (d := d) (ty := ty) (pos := pos) (after := after) (g := g) (y' := (⟨y', B0⟩ : Tk α)) (u := u) i ht hx hy (get_set hli) hjt (w := w)
    ⟨cs, k1, k2, fun c hc => by rw [hoi]; exact hh.spent_av hsp c (k4 c hc)⟩ a hs h1
  rw [List.set_set] at h2 h4
  have ho2 : Ctx.owns (Γ.set i (.ow e (.slice (some ⟨b, 0, none⟩) len cap) (ts.set j.toNat ⟨y', B0⟩))) = Γ.owns := owns_set_eq hi rfl
  have h5 := h2.kill js
  have hii : (kill js (Γ.set i (.ow e (.slice (some ⟨b, 0, none⟩) len cap) (ts.set j.toNat ⟨y', B0⟩))))[i]? = some (.ow e (.slice (some ⟨b, 0, none⟩) len cap) (ts.set j.toNat ⟨y', B0⟩)) := by
    rw [kill_ne js _ i hne]
    exact get_set hli
  have htk : ∀ c, c ∈ tks (ts.set j.toNat ⟨y', B0⟩) → c ∈ tks ts ∨ c ∈ B0 := by
    intro c hc
    obtain ⟨t, ht, hct⟩ := List.mem_flatMap.1 hc
    rcases List.mem_or_eq_of_mem_set ht with ht | rfl
    · exact .inl (List.mem_flatMap.2 ⟨t, ht, hct⟩)
    · exact .inr hct
  have hBt : ∀ c ∈ B, c ∈ Γ.toks := fun c hc => List.mem_flatMap.2 ⟨_, List.mem_of_getElem? hi, hc⟩
  have hdis : ∀ c ∈ B, c ∉ B2 := fun c hc hc2 => by
    rw [← hB] at hc2
    obtain ⟨f, hf, hcf⟩ := List.mem_flatMap.1 hc2
    obtain ⟨m, hm, hmf⟩ := sel_mem js Γ f hf
    exact nodup_twoG (g := Fact.toks) hh.tnd hi hmf (Ne.symm (hne m hm)) hc hcf
  have hnt : (tks (ts.set j.toNat ⟨y', B0⟩)).Nodup := by
    have hd : ∀ c ∈ B0, c ∉ tks ts := fun c hc hm => hdis c (e3 c hm) (k4 c hc)
    have key : ∀ (ts : List (Tk α)) (k : Nat), (tks ts).Nodup → (∀ c ∈ B0, c ∉ tks ts) → (tks (ts.set k ⟨y', B0⟩)).Nodup := by
      intro ts
      induction ts with
      | nil => intro k h _; simpa using h
      | cons t ts ih =>
        intro k h hd
        simp only [tks, List.flatMap_cons, List.nodup_append, List.mem_append] at h hd
        cases k with
        | zero =>
          simp only [List.set_cons_zero, tks, List.flatMap_cons, List.nodup_append]
          exact ⟨k3, h.2.1, fun a ha b hb e => hd a ha (.inr (e ▸ hb))⟩
        | succ k =>
          simp only [List.set_cons_succ, tks, List.flatMap_cons, List.nodup_append]
          refine ⟨h.1, ih k h.2.1 fun c hc hm => hd c hc (.inr hm), ?_⟩
          rintro a ha c hc rfl
          obtain ⟨t', ht', hct⟩ := List.mem_flatMap.1 hc
          rcases List.mem_or_eq_of_mem_set ht' with ht' | rfl
          · exact h.2.2 a ha a (List.mem_flatMap.2 ⟨t', ht', hct⟩) rfl
          · exact hd a hct (.inl ha)
    exact key ts j.toNat e2 hd
  have h6 := h5.od_up (B := B ++ B2) i hii hnt ?_ ?_ ?_
  · have ed : dats (ts.set j.toNat ⟨y', B0⟩) = xs.set j.toNat y' := by rw [← e1]; simp [dats, List.map_set]
    rw [ed, ← kill_set js _ i _ hne, List.set_set] at h6
    refine ⟨w', hrun, h6, h3, fun c hc => ?_⟩
    have hc := owns_kill js hc
    have : Ctx.owns (Γ.set i (.od e (.slice (some ⟨b, 0, none⟩) len cap) (xs.set j.toNat y') (B ++ B2))) = Γ.owns := owns_set_eq hi rfl
    rw [this] at hc
    exact .inl hc
  · intro c hc
    rw [List.mem_append]
    exact (htk c hc).imp (e3 c) (k4 c)
  · intro c hc
    have hc2 : w0.heap.size ≤ c ∧ c < w.heap.size ∧ c ∉ Γ.owns := by
      rcases List.mem_append.1 hc with hc | hc
      · exact ⟨hh.tge c (hBt c hc), hh.tlt c (hBt c hc)⟩
      · exact hsp c hc
    refine ⟨hc2.1, Nat.lt_of_lt_of_le hc2.2.1 h3.size, fun hm => hc2.2.2 ?_⟩
    have := owns_kill js hm
    rwa [ho2] at this
  · have p1 := toks_perm0 hi
    have hsel : sel js (Γ.set i (.pr True)) = sel js Γ := sel_set_ne js hne
    have p2 := kill_toks js (Γ.set i (.pr True)) hn'.2
    rw [hsel, hB] at p2
    have p3 := p1.trans (p2.append_left B)
    have p4 := toks_perm0 hii
    simp only [Fact.toks, List.nil_append] at p4
    rw [← kill_set js _ i _ hne, List.set_set] at p4
    have p5 := p4.append_left (B ++ B2)
    have p6 : (B ++ (B2 ++ Ctx.toks (kill js (Γ.set i (.pr True))))).Nodup := p3.nodup_iff.1 hh.tnd
    rw [← List.append_assoc] at p6
    exact p5.nodup_iff.2 p6

/-! ### Reading a row with tokens -/
theorem ex_od {α : Type} [Rep α] {o : Oper} {u : Value} {e : TypeId} {v : Value} {xs : List α} {B : List Nat} (i : Nat) (hi : Γ[i]? = some (.od e v xs B)) (h : Ex P n A w0 ρ (Γ.set i (.ow e v xs)) o u) : Ex P n A w0 ρ Γ o u :=
  fun a w hs hh => h a w hs (hh.od_ow i hi)
theorem st_od {α : Type} [Rep α] {o : Oper} {e : TypeId} {v : Value} {xs : List α} {B : List Nat} {G : Type} {val : G → Value} {fs : G → Ctx} (i : Nat) (hi : Γ[i]? = some (.od e v xs B))
    (h : St P n A w0 ρ (Γ.set i (.ow e v xs)) o val (fun x => fs x ++ Γ.set i (.ow e v xs)) []) (hfs : ∀ x, (fs x).all (fun f => f.owns.isEmpty && f.toks.isEmpty) = true) : St P n A w0 ρ Γ o val (fun x => fs x ++ Γ) [] := by
  intro a w hs hh
  obtain ⟨x, w', h1, h2, h3, _⟩ := h a w hs (hh.od_ow i hi)
  have hem : ∀ f ∈ fs x, f.owns = [] ∧ f.toks = [] := fun f hf => by
    have := List.all_eq_true.1 (hfs x) f hf
    simpa using this
  have hoe : Ctx.owns (fs x) = [] := by
    simp only [Ctx.owns, List.flatMap_eq_nil_iff]
    exact fun f hf => (hem f hf).1
  have ho : Ctx.owns (fs x ++ Γ.set i (.ow e v xs)) = Γ.owns := by
    have := owns_set_eq (f' := .ow e v xs) hi rfl
    simp only [Ctx.owns, List.flatMap_append] at this hoe ⊢
    rw [hoe, this, List.nil_append]
  refine ⟨x, w', h1, (hh.grow h3).adds fun f hf => ⟨hem f hf, ?_⟩, h3, fun b hb => .inl ?_⟩
  · have := h2.all f (List.mem_append_left _ hf)
    rwa [ho] at this
  · simp only [Ctx.owns, List.flatMap_append] at hoe hb ⊢
    rw [hoe, List.nil_append] at hb
    exact hb
theorem JL_od_open {α : Type} [Rep α] {ops : Array Oper} {l : List Oper} {e : TypeId} {v : Value} {xs : List α} {B : List Nat} {j : Int} {y : α} (i : Nat) (hi : Γ[i]? = some (.od e v xs B)) (hj : idx xs j = some y)
    (h : ∀ b cap, v = .slice (some ⟨b, 0, none⟩) xs.length cap → JL P n A w0 ops l Q ρ Γ E) : JL P n A w0 ops l Q ρ Γ E := by
  intro r hr a w hs hh
  obtain ⟨⟨cells, B0, ⟨_, hown⟩, _⟩, _⟩ := hh.get i hi
  rcases hown with ⟨rfl, h0⟩ | ⟨gg, cap, cur, hv, _⟩
  · have := (idx_eq hj).2.1
    omega
  · exact h gg cap hv r hr a w hs hh
theorem SH.src_od {α : Type} [Rep α] {e : TypeId} {u : Value} {ys : List α} {B : List Nat} (h : SH A w0 w Γ) (j : Nat) (hj : Γ[j]? = some (.od e u ys B)) : Src (fun k => A k ∨ k ∈ Γ.owns) w u ys := by
  have := (h.od_ow j hj).src_ow j (get_set (List.getElem?_eq_some_iff.1 hj).1)
  rwa [owns_set_eq (f' := .ow e u ys) hj rfl] at this
theorem SH.cv_od {α : Type} [Rep α] {e : TypeId} {v : Value} {xs : List α} {B : List Nat} (h : SH A w0 w Γ) (i : Nat) (hi : Γ[i]? = some (.od e v xs B)) : CV v [v] :=
  (h.od_ow i hi).cv_ow i (get_set (List.getElem?_eq_some_iff.1 hi).1)
theorem Ca_self {f : FuncId} {vs : List Value} {G : Type} {v : G → Value} {fs : G → Ctx} (hp : ∀ x, (fs x).all Fact.robust = true) (h : ∀ w, SH A w0 w Γ → Con P f vs nowhere w v fs) : Ca P A w0 Γ f vs v (fun x => fs x ++ Γ) :=
  fun w hh => (h w hh).mono fun _ _ ⟨x, he, hk⟩ => ⟨x, he, hh.join_self hk (hp x), Grow.of_below hk.below [], fun b hb => by
    simp only [Ctx.owns, List.flatMap_append, List.mem_append] at hb
    rcases hb with hb | hb
    · exact .inr (hk.ge b hb).1
    · exact .inl hb⟩
theorem tkn_owns {α : Type} [Rep α] {v v' : Value} {xs ys : List α} {B : List Nat} {i : Nat} (hi : Γ[i]? = some (.tkn v xs B)) : ∀ b ∈ Ctx.owns (Γ.set i (.tkn v' ys B)), b ∈ Γ.owns := fun b hb => by
  rwa [owns_set_eq (f' := .tkn v' ys B) hi rfl] at hb
end
end Go.Tc
namespace Go.Tc
open Go Go.RowKit

/-- What a function that marks a row does: it gives the next mark; the row reads as told then, in the same blocks; nothing else is changed. -/
def MarkCon (P : Program) (f : FuncId) {α : Type} [Rep α] (F : List α → Int → Option (Int × List α)) : Prop :=
  ∀ (w : World) (v : Value) (xs : List α) (B : List Nat) (k : Int) (r : Int × List α), DS w v xs B → B.Nodup → F xs k = some r →
    Calls P f #[v, .int .i64 k] w fun e w' => e = .returned (.int .i64 r.1) ∧ DS w' v r.2 B ∧ Grow w w' B
abbrev mkr {α : Type} [Rep α] (v : Value) (xs : List α) (B : List Nat) : Fact := .inv B (fun w => DS w v xs B)
def bare (w : World) : World := { w with heap := #[] }
abbrev rest (w : World) (B : List Nat) : Fact := .fz w (fun k => k < w.heap.size ∧ k ∉ B)
theorem mark_start {α : Type} [Rep α] {w : World} {v : Value} {xs : List α} {B : List Nat} (h : DS w v xs B) (hn : B.Nodup) : SH nowhere (bare w) w [mkr v xs B, rest w B] := by
  refine ⟨⟨rfl, rfl, rfl, by simp [bare], fun k hk => by simp [bare] at hk⟩, fun k hk => hk.elim, by simpa [Ctx.owns, Fact.owns] using hn, fun b hb => ⟨by simp [bare], ?_⟩, by simp [Ctx.toks, Fact.toks], by simp [Ctx.toks, Fact.toks], fun f hf => ?_⟩
  · simp [Ctx.owns, Fact.owns] at hb
    exact h.lt b hb
  · simp only [List.mem_cons, List.not_mem_nil, or_false] at hf
    rcases hf with rfl | rfl
    · exact fun w' hw' => h.frame hw'
    · refine ⟨Nat.le_refl _, ?_⟩
      intro k hk
      refine ⟨?_, hk.1, rfl⟩
      rintro (hk' | hk')
      · exact hk'.elim
      · simp [Ctx.owns, Fact.owns] at hk'
        exact hk.2 hk'
theorem mark_end {α : Type} [Rep α] {w w' : World} {v : Value} {xs : List α} {B : List Nat} (h : SH nowhere (bare w) w' [mkr v xs B, rest w B]) : DS w' v xs B ∧ Grow w w' B := by
  have h1 : DS w' v xs B := h.get 0 rfl w' (fun _ _ => rfl)
  have h2 := h.get 1 rfl
  exact ⟨h1, h.below.os, h.below.tape, h.below.output, h2.1, fun k hk hb => (h2.2 k ⟨hk, hb⟩).2.2⟩
theorem DL.focus {α : Type} [Rep α] {w : World} : ∀ (xs : List α) (cs : List Value) (B : List Nat) (k : Nat) (y : α), DL w cs xs B → xs[k]? = some y →
    ∃ c1 c c2 Bi, cs = c1 ++ (c ++ c2) ∧ c1.length = k * Rep.sz α ∧ (∀ b ∈ Bi, b ∈ B) ∧ (B.Nodup → Bi.Nodup) ∧ Rep.dc w c y Bi ∧ c.length = Rep.sz α ∧
      ∀ w' c' y', Rep.dc w' c' y' Bi → (∀ b ∈ B, b ∉ Bi → w'.heap[b]? = w.heap[b]?) → B.Nodup → DL w' (c1 ++ (c' ++ c2)) (xs.set k y') B
  | [], _, _, k, y, _, hk => by simp at hk
  | x :: r, _, _, 0, y, ⟨c1, c2, B1, B2, e, eB, h1, h2⟩, hk => by
    simp at hk
    subst hk e eB
    refine ⟨[], c1, c2, B1, rfl, by simp, fun b hb => by simp [hb], fun hn => (List.nodup_append.1 hn).1, h1, Rep.len (Rep.dcr (A := nowhere) h1 fun _ _ h => h), ?_⟩
    intro w' c' y' h3 hf hn
    rw [List.nodup_append] at hn
    exact ⟨c', c2, B1, B2, rfl, rfl, h3, DL.frame _ _ _ h2 fun b hb => hf b (by simp [hb]) (fun hm => hn.2.2 b hm b hb rfl)⟩
  | x :: r, _, _, k + 1, y, ⟨c1, c2, B1, B2, e, eB, h1, h2⟩, hk => by
    subst e eB
    obtain ⟨d1, d, d2, Bi, e1, e2, e3, e4, e5, e6, e7⟩ := DL.focus r c2 B2 k y h2 (by simpa using hk)
    have hl := Rep.len (Rep.dcr (A := nowhere) h1 fun _ _ h => h)
    refine ⟨c1 ++ d1, d, d2, Bi, by rw [e1]; simp, by rw [List.length_append, hl, e2, Nat.add_mul]; omega, fun b hb => by simp [e3 b hb], fun hn => e4 (List.nodup_append.1 hn).2.1, e5, e6, ?_⟩
    intro w' c' y' h3 hf hn
    have hn' := List.nodup_append.1 hn
    refine ⟨c1, d1 ++ (c' ++ d2), B1, B2, by simp, rfl, Rep.dcf h1 fun b hb => hf b (by simp [hb]) (fun hm => hn'.2.2 b hb b (e3 b hm) rfl), ?_⟩
    exact e7 w' c' y' h3 (fun b hb hbi => hf b (by simp [hb]) hbi) hn'.2.1

/-- A part that is a row: at the offset o. -/
def FC {α β : Type} [Rep α] [Rep β] (o : Nat) (y : α) (z : List β) (st : List β → α) : Prop :=
  ∀ w c Bi, Rep.dc w c y Bi → ∃ u Bf, c[o]? = some u ∧ DS w u z Bf ∧ (Bi.Nodup → Bf.Nodup) ∧ (∀ b ∈ Bf, b ∈ Bi) ∧
    ∀ w' z', DS w' u z' Bf → Bi.Nodup → (∀ b ∈ Bi, b ∉ Bf → w'.heap[b]? = w.heap[b]?) → Rep.dc w' c (st z') Bi
/-- A part that is a number. -/
def FSt {α : Type} [Rep α] (o : Nat) (y : α) (st : Int → α) : Prop :=
  ∀ w c Bi, Rep.dc w c y Bi → o < c.length ∧ ∀ k, Rep.dc w (c.set o (.int .i64 k)) (st k) Bi
theorem fc_self {β : Type} [Rep β] (y : List β) : FC 0 y y (fun z => z) := by
  rintro w c Bi ⟨v, rfl, h⟩
  exact ⟨v, Bi, rfl, h, fun h => h, fun _ h => h, fun w' z' h' _ _ => ⟨v, rfl, h'⟩⟩
theorem fs_self (y : Int) : FSt 0 y (fun k => k) := by
  rintro w c Bi ⟨rfl, rfl⟩
  exact ⟨by simp, fun k => ⟨rfl, rfl⟩⟩
theorem Dc.ds {β : Type} [Rep β] {w : World} {v : Value} {z : List β} {B : List Nat} (h : Dc w v z B) : DS w v z B := by
  obtain ⟨cs, rfl, u, rfl, h⟩ := h
  exact h
theorem DS.dc {β : Type} [Rep β] {w : World} {v : Value} {z : List β} {B : List Nat} (h : DS w v z B) : Dc w v z B := ⟨[v], rfl, v, rfl, h⟩

section
variable {R : Type} {P : Program} {n : Nat} {A : Nat → Prop} {w0 w w' : World} {Q : R → Exit → Act → World → Prop} {ρ ρ' : Env} {Γ Γ' : Ctx} {E : Option R}
variable {d : Option Nat} {ty : TypeId} {pos : String} {after : Array Edge} {g : Option (Nat × Bool)}
theorem ConM_of {f : FuncId} {fn : Func} {body : Code} {vs : List Value} {G : Type} {v : R → G → Value} {fs : R → G → Ctx} {r : R}
    (hf : P.funcs[f]? = some fn) (hb : fn.body = some body) (hn : fn.ntmps = n) (hl : Nat.ble vs.length n = true) (hΓ : SH A w0 w Γ) (hρ : enum 0 vs = ρ)
    (h : J P n A w0 body (QBody P fn (Post A w0 v fs)) ρ Γ E) (hE : E = some r) : Calls P f vs.toArray w fun e w' => ∃ x, e = .returned (v r x) ∧ SH A w0 w' (fs r x) := by
  refine calls_of_wp hf hb ?_
  refine h r hE _ w ⟨?_, rfl, ?_⟩ hΓ
  · simp [Nat.ble_eq] at hl
    simp [hn]; omega
  · intro t u ht
    rw [← hρ] at ht
    obtain ⟨_, h2⟩ := enum_get vs 0 t u ht
    simp at h2
    have hlt : t < vs.length := (List.getElem?_eq_some_iff.1 h2).1
    simp [Nat.ble_eq] at hl
    refine ⟨?_, by omega⟩
    simp [Array.getD_eq_getD_getElem?, Array.getElem?_append_left (show t < vs.toArray.size by simpa using hlt), h2]
theorem SH.mkd {α : Type} [Rep α] {v : Value} {xs : List α} {B : List Nat} (h : SH A w0 w Γ) (i : Nat) (hi : Γ[i]? = some (mkr v xs B)) : DS w v xs B := h.get i hi w (fun _ _ => rfl)
theorem ex_len_mk {α : Type} [Rep α] {x : Operand} {t e : TypeId} {v : Value} {xs : List α} {B : List Nat} (i : Nat) (ht : P.underlying t = some (.slice e)) (hx : ev ρ x = some v) (hi : Γ[i]? = some (mkr v xs B)) : Ex P n A w0 ρ Γ ⟨d, .call ⟨.builtin .len, #[x], #[t]⟩, ty, pos, after, g⟩ (.int .i64 (xs.length : Int)) := by
  intro a w hs hh
  have h := hh.mkd i hi
  rcases h with ⟨rfl, _, ad, cap, rfl, _⟩ | ⟨b, off, cap, cells, Bs, arr, t', rfl, _⟩ <;>
  simp [execOp, resolve, invoke, builtin, hs.eval hx, Builtin.len_, run_underlying ht, goInt]
theorem JL_mk_open {α : Type} [Rep α] {ops : Array Oper} {l : List Oper} {v : Value} {xs : List α} {B : List Nat} {j : Int} {y : α} (i : Nat) (hi : Γ[i]? = some (mkr v xs B)) (hj : idx xs j = some y)
    (h : ∀ b off cap, v = .slice (some ⟨b, off, none⟩) xs.length cap → JL P n A w0 ops l Q ρ Γ E) : JL P n A w0 ops l Q ρ Γ E := by
  intro r hr a w hs hh
  rcases hh.mkd i hi with ⟨rfl, _⟩ | ⟨b, off, cap, cells, Bs, arr, t', hv, _⟩
  · have := (idx_eq hj).2.1
    simp at this
  · exact h b off cap hv r hr a w hs hh
theorem ex_index_lit {α : Type} {x ix : Operand} {t e : TypeId} {k : IntKind} {ag : Bool} {b off cap len s : Nat} {xs : List α} {j : Int} {y : α} (ht : P.underlying t = some (.slice e)) (he : tinf P e = some (s, ag))
    (hx : ev ρ x = some (.slice (some ⟨b, off, none⟩) len cap)) (hix : ev ρ ix = some (.int k j)) (hy : idx xs j = some y) (hl : len = xs.length) :
    Ex P n A w0 ρ Γ ⟨d, .indexAddr t x ix, ty, pos, after, g⟩ (.pointer (some ⟨b, off + j.toNat * s, none⟩)) := by
  intro a w hs hh
  obtain ⟨h0, h1, h2⟩ := idx_eq hy
  have hb : 0 ≤ j ∧ j < (len : Int) := ⟨by omega, by omega⟩
  simp [execOp, hs.eval hx, hs.eval hix, Instr.indexAt, asIntOf, run_underlying ht, hb, tinf_size he, Addr.add_lit]
theorem ex_index_own {α : Type} {x ix : Operand} {t e : TypeId} {k : IntKind} {ag : Bool} {b cap len s : Nat} {xs : List α} {j : Int} {y : α} (ht : P.underlying t = some (.slice e)) (he : tinf P e = some (s, ag))
    (hx : ev ρ x = some (.slice (some ⟨b, 0, none⟩) len cap)) (hix : ev ρ ix = some (.int k j)) (hy : idx xs j = some y) (hl : len = xs.length) :
    Ex P n A w0 ρ Γ ⟨d, .indexAddr t x ix, ty, pos, after, g⟩ (.pointer (some ⟨b, j.toNat * s, none⟩)) := by
  intro a w hs hh
  have := ex_index_lit (P := P) (A := A) (w0 := w0) (Γ := Γ) (d := d) (ty := ty) (pos := pos) (after := after) (g := g) ht he hx hix hy hl a w hs hh
  rw [Nat.zero_add] at this
  exact this
/-- A part that is a row is read. -/
theorem st_load_mk {α β : Type} [Rep α] [Rep β] {x : Operand} {t : TypeId} {b off cap len o : Nat} {xs : List α} {B : List Nat} {j : Int} {y : α} {z : List β} {st : List β → α} (i : Nat) (hF : FC o y z st) (ht : tinf P t = some (1, false)) (hx : ev ρ x = some (.pointer (some ⟨b, off + j.toNat * Rep.sz α + o, none⟩)))
    (hi : Γ[i]? = some (mkr (.slice (some ⟨b, off, none⟩) len cap) xs B)) (hy : idx xs j = some y) :
    St P n A w0 ρ Γ ⟨d, .load t x, ty, pos, after, g⟩ (fun u : Value => u) (fun u => Γ.set i (.inv B (fun w => DS w (.slice (some ⟨b, off, none⟩) len cap) xs B ∧ w.cell? ⟨b, off + j.toNat * Rep.sz α + o, none⟩ = some u))) [] := by
  intro a w hs hh
  obtain ⟨h0, h1, h2⟩ := idx_eq hy
  have hds := hh.mkd i hi
  rcases hds with ⟨rfl, _⟩ | ⟨b', off', cap', cells, Bs, arr, t', hv, hb, h3, h4, h5, h6, rfl⟩
  · simp at h1
  simp only [Value.slice.injEq, Option.some.injEq, Addr.mk.injEq, and_true] at hv
  obtain ⟨⟨rfl, rfl⟩, rfl, rfl⟩ := hv
  obtain ⟨c1, c, c2, Bi, e1, e2, e3, e4, e5, e6, e7⟩ := DL.focus xs cells Bs j.toNat y h6 h2
  obtain ⟨u, Bf, f1, f2, f3, f4, f5⟩ := hF w c Bi e5
  have hc : w.cell? ⟨b, off + j.toNat * Rep.sz α + o, none⟩ = some u := by
    rw [Nat.add_assoc]
    refine h5 _ _ ?_
    rw [e1, ← e2, List.getElem?_append_right (by omega)]
    have : o < c.length := (List.getElem?_eq_some_iff.1 f1).1
    rw [List.getElem?_append_left (by omega)]
    rw [← f1]; congr 1; omega
  refine ⟨u, w, ?_, hh.set hi (Grow.refl w _) (by have := nodup_at (g := Fact.owns) hh.nd hi; exact this) (fun c hc => ⟨.inl hc, (hh.ge c (List.mem_flatMap.2 ⟨_, List.mem_of_getElem? hi, hc⟩)).2⟩) ?_, Grow.refl w _, .set hi (fun c hc => .inl hc)⟩
  · simp [execOp, hs.eval hx, Instr.loadAt, Instr.sureAddr, loadVar, tinf_agg ht, run_load, hc]
  · intro w' hw'
    refine ⟨hh.get i hi w' hw', ?_⟩
    have := hw' b (by simp)
    simpa [World.cell?, this] using hc
theorem run_mark {f : FuncId} {args : List Operand} {ats : Array TypeId} {vs : List Value} {a : Act} {d : Nat} (hs : Sat n ρ a) (hf : ∀ args w, (callFunc f args).run P w = .ok (.enter f args) w) (hargs : evL ρ args = some vs) :
    (execOp a.eval ⟨some d, .call ⟨.value (.func f), args.toArray, ats⟩, ty, pos, after, g⟩).run P w = .ok (.enter f vs.toArray) w := by
  simp [execOp, resolve, Act.eval, Deferred.ofValue, invoke, hs.evalL hargs, hf]
/-- A part that is a row is marked. -/
theorem JL_markc {α β : Type} [Rep α] [Rep β] {ops : Array Oper} {rest : List Oper} {d : Nat} {f : FuncId} {args : List Operand} {ats : Array TypeId} {b off cap len o : Nat} {xs : List α} {B : List Nat} {j k : Int} {y : α} {z : List β} {st : List β → α} {u : Value} {F : List β → Int → Option (Int × List β)} {r' : Int × List β} (i : Nat) (hM : MarkCon P f F) (hF : FC o y z st)
    (hw : Wants n ρ ops ⟨some d, .call ⟨.value (.func f), args.toArray, ats⟩, ty, pos, after, g⟩) (hd : Nat.blt d n = true)
    (hf : ∀ args w, (callFunc f args).run P w = .ok (.enter f args) w) (hargs : evL ρ args = some [u, .int .i64 k])
    (hi : Γ[i]? = some (.inv B (fun w => DS w (.slice (some ⟨b, off, none⟩) len cap) xs B ∧ w.cell? ⟨b, off + j.toNat * Rep.sz α + o, none⟩ = some u))) (hy : idx xs j = some y) (hr' : F z k = some r')
    (h : JL P n A w0 ops rest Q ((d, .int .i64 r'.1) :: ρ) (Γ.set i (mkr (.slice (some ⟨b, off, none⟩) len cap) (xs.set j.toNat (st r'.2)) B)) E) : JL P n A w0 ops (⟨some d, .call ⟨.value (.func f), args.toArray, ats⟩, ty, pos, after, g⟩ :: rest) Q ρ Γ E := by
  intro r hr a w hs hh
  obtain ⟨h0, h1, h2⟩ := idx_eq hy
  refine wpList_step fun K hK => ?_
  rw [hw a hs]
  simp only [if_true]
  unfold Oper.wp
  rw [run_mark hs hf hargs, Oper.upon_enter]
  have hnB : B.Nodup := nodup_at hh.nd hi
  obtain ⟨hds, hcell⟩ := hh.get i hi w (fun _ _ => rfl)
  rcases hds with ⟨rfl, _⟩ | ⟨b', off', cap', cells, Bs, arr, t', hv, hb, h3, h4, h5, h6, rfl⟩
  · simp at h1
  simp only [Value.slice.injEq, Option.some.injEq, Addr.mk.injEq, and_true] at hv
  obtain ⟨⟨rfl, rfl⟩, rfl, rfl⟩ := hv
  have hnBs := (List.nodup_cons.1 hnB).2
  have hbBs := (List.nodup_cons.1 hnB).1
  obtain ⟨c1, c, c2, Bi, e1, e2, e3, e4, e5, e6, e7⟩ := DL.focus xs cells Bs j.toNat y h6 h2
  obtain ⟨u', Bf, f1, f2, f3, f4, f5⟩ := hF w c Bi e5
  have hc : w.cell? ⟨b, off + j.toNat * Rep.sz α + o, none⟩ = some u' := by
    rw [Nat.add_assoc]
    refine h5 _ _ ?_
    rw [e1, ← e2, List.getElem?_append_right (by omega)]
    have : o < c.length := (List.getElem?_eq_some_iff.1 f1).1
    rw [List.getElem?_append_left (by omega)]
    rw [← f1]; congr 1; omega
  rw [hcell] at hc
  cases hc
  have hsub : ∀ k ∈ Bf, k ∈ b :: Bs := fun k hk => List.mem_cons_of_mem _ (e3 k (f4 k hk))
  refine (hM w u z Bf k r' f2 (f3 (e4 hnBs)) hr').mono ?_
  rintro e w' ⟨rfl, hd', hg⟩
  refine hK _ _ (h r hr _ _ (hs.put (by simpa [Nat.blt_eq] using hd)) ?_)
  have hgB : Grow w w' (b :: Bs) := ⟨hg.os, hg.tape, hg.output, hg.size, fun k hk hk' => hg.block k hk (fun hm => hk' (hsub k hm))⟩
  have hlt : ∀ k ∈ b :: Bs, k < w.heap.size := fun k hk => (hh.ge k (List.mem_flatMap.2 ⟨_, List.mem_of_getElem? hi, hk⟩)).2
  have hbf : b ∉ Bf := fun hm => hbBs (e3 b (f4 b hm))
  have hb' : w'.heap[b]? = w.heap[b]? := hg.block b (hlt b (by simp)) hbf
  have hnew : DS w' (.slice (some ⟨b, off, none⟩) xs.length cap) (xs.set j.toNat (st r'.2)) (b :: Bs) := by
    refine .inr ⟨b, off, cap, cells, Bs, arr, t', by simp, by rw [hb', hb], by simpa using h3, h4, h5.frame hb', ?_, rfl⟩
    have hdc := f5 w' r'.2 hd' (e4 hnBs) (fun k hk hkf => hg.block k (hlt k (List.mem_cons_of_mem _ (e3 k hk))) hkf)
    rw [e1]
    exact e7 w' c (st r'.2) hdc (fun k hk hki => hg.block k (hlt k (List.mem_cons_of_mem _ hk)) (fun hm => hki (f4 k hm))) hnBs
  refine hh.set hi hgB hnB (fun c hc => ⟨.inl hc, Nat.lt_of_lt_of_le (hlt c hc) hg.size⟩) ?_
  exact fun w2 hw2 => hnew.frame hw2
/-- A part that is a number is marked. -/
theorem sk_store_mk {α : Type} [Rep α] {x y : Operand} {t : TypeId} {b off cap len o : Nat} {xs : List α} {B : List Nat} {j k : Int} {y' : α} {st : Int → α} (i : Nat) (hF : FSt o y' st) (ht : tinf P t = some (1, false)) (hx : ev ρ x = some (.pointer (some ⟨b, off + j.toNat * Rep.sz α + o, none⟩))) (hy : ev ρ y = some (.int .i64 k))
    (hi : Γ[i]? = some (mkr (.slice (some ⟨b, off, none⟩) len cap) xs B)) (hj : idx xs j = some y') :
    Sk P n A w0 ρ Γ ⟨d, .store t x y, ty, pos, after, g⟩ (Γ.set i (mkr (.slice (some ⟨b, off, none⟩) len cap) (xs.set j.toNat (st k)) B)) [b] := by
  intro a w hs hh
  obtain ⟨h0, h1, h2⟩ := idx_eq hj
  have hnB : B.Nodup := nodup_at hh.nd hi
  have hds := hh.mkd i hi
  rcases hds with ⟨rfl, _⟩ | ⟨b', off', cap', cells, Bs, arr, t', hv, hb, h3, h4, h5, h6, rfl⟩
  · simp at h1
  simp only [Value.slice.injEq, Option.some.injEq, Addr.mk.injEq, and_true] at hv
  obtain ⟨⟨rfl, rfl⟩, rfl, rfl⟩ := hv
  have hnBs := (List.nodup_cons.1 hnB).2
  have hbBs := (List.nodup_cons.1 hnB).1
  obtain ⟨c1, c, c2, Bi, e1, e2, e3, e4, e5, e6, e7⟩ := DL.focus xs cells Bs j.toNat y' h6 h2
  obtain ⟨ho, hst⟩ := hF w c Bi e5
  have hcell : ∃ u0, cells[j.toNat * Rep.sz α + o]? = some u0 := by
    have : j.toNat * Rep.sz α + o < cells.length := by rw [e1]; simp; omega
    exact ⟨_, List.getElem?_eq_getElem this⟩
  obtain ⟨u0, hu0⟩ := hcell
  have hin : off + (j.toNat * Rep.sz α + o) < arr.size := by
    have := h5 _ _ hu0
    simp only [World.cell?, hb] at this
    exact (Array.getElem?_eq_some_iff.1 (by simpa using this)).1
  have hstr := run_storeCells_at P b (off + (j.toNat * Rep.sz α + o)) t' [.int .i64 k] 0 arr w hb (by simp only [List.length_singleton, Nat.add_zero]; omega) (by simp [Value.oneCell'])
  simp only [Nat.add_zero, List.length_singleton] at hstr
  have hlt : ∀ k ∈ b :: Bs, k < w.heap.size := fun k hk => (hh.ge k (List.mem_flatMap.2 ⟨_, List.mem_of_getElem? hi, hk⟩)).2
  generalize harr : (arr.toList.take (off + (j.toNat * Rep.sz α + o)) ++ [Value.int .i64 k] ++ arr.toList.drop (off + (j.toNat * Rep.sz α + o) + 1)).toArray = arr' at hstr
  have harr' : ∀ m, arr'[m]? = if m = off + (j.toNat * Rep.sz α + o) then some (.int .i64 k) else arr[m]? := by
    intro m
    rw [← harr]
    simp only [List.getElem?_toArray, List.append_assoc, List.singleton_append]
    have hl : (arr.toList.take (off + (j.toNat * Rep.sz α + o))).length = off + (j.toNat * Rep.sz α + o) := by simp; omega
    by_cases hm : m < off + (j.toNat * Rep.sz α + o)
    · rw [List.getElem?_append_left (by omega), if_neg (by omega), List.getElem?_take, if_pos hm]
      simp
    · rw [List.getElem?_append_right (by omega), hl]
      by_cases he : m = off + (j.toNat * Rep.sz α + o)
      · rw [if_pos he, he]; simp
      · rw [if_neg he, show m - (off + (j.toNat * Rep.sz α + o)) = (m - (off + (j.toNat * Rep.sz α + o)) - 1) + 1 by omega, List.getElem?_cons_succ, List.getElem?_drop]
        rw [show off + (j.toNat * Rep.sz α + o) + 1 + (m - (off + (j.toNat * Rep.sz α + o)) - 1) = m by omega]
        simp
  have hgb : Grow w (w.setRow b arr') [b] := ⟨rfl, rfl, rfl, by simp, fun k _ hk => setRow_other w b k _ (fun e => hk (by simp [e]))⟩
  refine ⟨w.setRow b arr', ?_, ?_, hgb, .set hi (fun c hc => .inl hc)⟩
  · simp only [execOp, hs.eval hx, hs.eval hy, Sem.run_bind, Instr.storeAt, Instr.sureAddr, storeVar, Sem.run_pure, Result.andThen_ok, tinf_size ht, Value.cells]
    rw [Nat.add_assoc]
    simp [hstr]
  · refine hh.set hi ⟨rfl, rfl, rfl, by simp, fun k hk hk' => hgb.block k hk (fun hm => hk' (by simp at hm; simp [Fact.owns, hm]))⟩ hnB (fun c hc => ⟨.inl hc, by simpa using hlt c hc⟩) ?_
    have hnew : DS (w.setRow b arr') (.slice (some ⟨b, off, none⟩) xs.length cap) (xs.set j.toNat (st k)) (b :: Bs) := by
      refine .inr ⟨b, off, cap, c1 ++ (c.set o (.int .i64 k) ++ c2), Bs, arr', t', by simp, setRow_heap w b arr _ t' _ hb, by simpa using h3, h4, ?_, ?_, rfl⟩
      · intro m u hm
        have hmc : (cells.set (j.toNat * Rep.sz α + o) (.int .i64 k))[m]? = some u := by
          rw [← hm, e1]
          rw [List.set_append_right _ _ (by omega), List.set_append_left _ _ (by omega)]
          congr 4
          omega
        rw [List.getElem?_set] at hmc
        have hgoal : (w.setRow b arr').cell? ⟨b, off + m, none⟩ = arr'[off + m]? := by simp [World.cell?, setRow_heap w b arr _ t' _ hb]
        rw [hgoal, harr']
        by_cases he : j.toNat * Rep.sz α + o = m
        · rw [if_pos he] at hmc
          split at hmc
          · rw [if_pos (by omega)]; simpa using hmc
          · simp at hmc
        · rw [if_neg he] at hmc
          rw [if_neg (by omega)]
          have := h5 m u hmc
          simpa [World.cell?, hb] using this
      · refine e7 _ _ _ (Rep.dcf (hst k) fun k hk => ?_) (fun k hk _ => ?_) hnBs
        · exact setRow_other w b k _ (fun e => hbBs (by rw [← e]; exact e3 k hk))
        · exact setRow_other w b k _ (fun e => hbBs (by rw [← e]; exact hk))
    exact fun w2 hw2 => hnew.frame hw2
end
end Go.Tc
namespace Go.Tc
open Go Go.RowKit

section
variable {R : Type} {P : Program} {n : Nat} {A : Nat → Prop} {w0 w w' : World} {Q : R → Exit → Act → World → Prop} {ρ ρ' : Env} {Γ Γ' : Ctx} {E : Option R}
variable {d : Option Nat} {ty : TypeId} {pos : String} {after : Array Edge} {g : Option (Nat × Bool)}

/-- A datum with tokens is written; what else has tokens or is owned stays, and so does what was known at the begin. -/
theorem SH.thaw {α : Type} [Rep α] {v : Value} {x x' : α} {B B0 : List Nat} {Δ : Ctx} (h : SH A w0 w Γ) (i : Nat) (hi : Γ[i]? = some (.tkn v x B)) (hsub : ∀ b ∈ B0, b ∈ B) (hg : Grow w w' B0) (hd : Dc w' v x' B0) (hn0 : B0.Nodup)
    (js : List Nat) (hn : ndup (i :: js) = true) (hrob : (Tc.sel js Γ).all Fact.robust = true) (hΔ : SH A w0 w0 Δ) (hΔo : Δ.all (fun f => f.owns.isEmpty && f.toks.isEmpty) = true) :
    SH A w0 w' (.rd v x' :: .tkn v x' B :: (Δ ++ Tc.sel js Γ)) := by
  have hn' := hn
  simp only [ndup, Bool.and_eq_true, Bool.not_eq_true', List.any_eq_false] at hn'
  have hne : ∀ k ∈ js, k ≠ i := fun k hk e => hn'.1 k hk (by subst e; exact Nat.beq_refl k)
  have hBt : ∀ b ∈ B, b ∈ Γ.toks := fun b hb => List.mem_flatMap.2 ⟨_, List.mem_of_getElem? hi, hb⟩
  have hsel := h.sel js hn'.2
  have hso : ∀ b ∈ (Tc.sel js Γ).owns, b ∈ Γ.owns := fun b hb => by
    obtain ⟨m, _, f, hf, hbf⟩ := sel_owns js Γ b hb
    exact List.mem_flatMap.2 ⟨f, List.mem_of_getElem? hf, hbf⟩
  have hbel : Below w0.heap.size w0 w' := h.below.trans ⟨hg.os, hg.tape, hg.output, hg.size, fun k hk => hg.block k (Nat.lt_of_lt_of_le hk h.lt) (fun hm => by have := h.tge k (hBt k (hsub k hm)); omega)⟩
  have h1 : SH A w0 w' (Tc.sel js Γ) := by
    refine ⟨hbel, h.av, hsel.nd, fun b hb => ⟨(hsel.ge b hb).1, Nat.lt_of_lt_of_le (hsel.ge b hb).2 hg.size⟩, hsel.tnd, hsel.tge, fun f hf => ?_⟩
    obtain ⟨m, hm, hmf⟩ := sel_mem js Γ f hf
    refine Fact.robust_frame (List.all_eq_true.1 hrob f hf) (hsel.all f hf) (fun b hb => ?_) (fun b hb => ⟨?_, ?_⟩)
    · have hbo : b ∈ Γ.owns := List.mem_flatMap.2 ⟨f, List.mem_of_getElem? hmf, hb⟩
      exact hg.block b (h.ge b hbo).2 (fun hk => (h.tlt b (hBt b (hsub b hk))).2 hbo)
    · have hbt : b ∈ Γ.toks := List.mem_flatMap.2 ⟨f, List.mem_of_getElem? hmf, hb⟩
      exact hg.block b (h.tlt b hbt).1 (fun hk => nodup_twoG (g := Fact.toks) h.tnd hmf hi (hne m hm) hb (hsub b hk))
    · exact (Fact.tok_lt (hsel.all f hf) b hb).2
  have hem : ∀ f ∈ Δ, f.owns = [] ∧ f.toks = [] := fun f hf => by
    have := List.all_eq_true.1 hΔo f hf
    simpa using this
  have h2 : SH A w0 w' (Δ ++ Tc.sel js Γ) := by
    refine h1.adds fun f hf => ⟨hem f hf, ?_⟩
    refine Fact.frame hbel.size (hΔ.all f hf) (fun b hb => by rw [(hem f hf).1] at hb; simp at hb) (fun k hk => hbel.block k hk) (fun k hk ha => ⟨hbel.block k hk, ?_⟩)
    rintro (hk' | hk')
    · exact ha (.inl hk')
    · have := (h1.ge k hk').1; omega
  have hto : Ctx.toks (Δ ++ Tc.sel js Γ) = (Tc.sel js Γ).toks := by
    have : Ctx.toks Δ = [] := by
      simp only [Ctx.toks, List.flatMap_eq_nil_iff]
      exact fun f hf => (hem f hf).2
    simp only [Ctx.toks, List.flatMap_append] at this ⊢
    rw [this, List.nil_append]
  have hoo : Ctx.owns (Δ ++ Tc.sel js Γ) = (Tc.sel js Γ).owns := by
    have : Ctx.owns Δ = [] := by
      simp only [Ctx.owns, List.flatMap_eq_nil_iff]
      exact fun f hf => (hem f hf).1
    simp only [Ctx.owns, List.flatMap_append] at this ⊢
    rw [this, List.nil_append]
  have h3 : SH A w0 w' (.tkn v x' B :: (Δ ++ Tc.sel js Γ)) := by
    refine h2.consT (Grow.refl w' []) (by simp [Fact.owns]) (by simp [Fact.owns]) ⟨⟨B0, hd, hn0, hsub⟩, fun b hb => ⟨Nat.lt_of_lt_of_le (h.tlt b (hBt b hb)).1 hg.size, ?_⟩⟩ ?_ (fun b hb => h.tge b (hBt b hb))
    · have ho : Ctx.owns (Fact.tkn v x' B :: (Δ ++ Tc.sel js Γ)) = (Tc.sel js Γ).owns := by
        have : Ctx.owns (Fact.tkn v x' B :: (Δ ++ Tc.sel js Γ)) = Ctx.owns (Δ ++ Tc.sel js Γ) := by simp [Ctx.owns, Fact.owns]
        rw [this, hoo]
      rw [ho]
      rintro (hk | hk)
      · have h5 := h.av b hk
        have h6 := h.tge b (hBt b hb)
        omega
      · exact (h.tlt b (hBt b hb)).2 (hso b hk)
    · rw [hto]
      show (B ++ (Tc.sel js Γ).toks).Nodup
      have := sel_nodupG (r := Fact.toks) (i :: js) Γ hn h.tnd
      simp only [Tc.sel, hi, List.flatMap_cons] at this
      exact this
  exact h3.tkn_rd 0 rfl

/-- A call that marks a datum with tokens. -/
theorem JL_mark {α : Type} [Rep α] {ops : Array Oper} {rest : List Oper} {d : Nat} {f : FuncId} {args : List Operand} {ats : Array TypeId} {v : Value} {xs : List α} {B : List Nat} {k : Int} {F : List α → Int → Option (Int × List α)} {r' : Int × List α} {Δ : Ctx} (i : Nat) (js : List Nat) (hM : MarkCon P f F)
    (hw : Wants n ρ ops ⟨some d, .call ⟨.value (.func f), args.toArray, ats⟩, ty, pos, after, g⟩) (hd : Nat.blt d n = true)
    (hf : ∀ args w, (callFunc f args).run P w = .ok (.enter f args) w) (hargs : evL ρ args = some [v, .int .i64 k]) (hi : Γ[i]? = some (.tkn v xs B)) (hn : ndup (i :: js) = true) (hrob : (sel js Γ).all Fact.robust = true)
    (hΔ : SH A w0 w0 Δ) (hΔo : Δ.all (fun f => f.owns.isEmpty && f.toks.isEmpty) = true) (hr' : F xs k = some r')
    (h : JL P n A w0 ops rest Q ((d, .int .i64 r'.1) :: ρ) (.rd v r'.2 :: .tkn v r'.2 B :: (Δ ++ sel js Γ)) E) : JL P n A w0 ops (⟨some d, .call ⟨.value (.func f), args.toArray, ats⟩, ty, pos, after, g⟩ :: rest) Q ρ Γ E := by
  intro r hr a w hs hh
  refine wpList_step fun K hK => ?_
  rw [hw a hs]
  simp only [if_true]
  unfold Oper.wp
  rw [run_mark hs hf hargs, Oper.upon_enter]
  obtain ⟨⟨B0, h1, h2, h3⟩, h4⟩ := hh.get i hi
  refine (hM w v xs B0 k r' h1.ds h2 hr').mono ?_
  rintro e w' ⟨rfl, hd', hg⟩
  exact hK _ _ (h r hr _ _ (hs.put (by simpa [Nat.blt_eq] using hd)) (hh.thaw i hi h3 hg hd'.dc h2 js hn hrob hΔ hΔo))

/-! ### A call walked in place -/
def QInl (P : Program) (fn : Func) (K : R → Value → World → Prop) : R → Exit → Act → World → Prop := fun r => bodyPost P fn (fun e w => ∃ u, e = .returned u ∧ K r u w)
/-- What goes on behind the call. -/
def Behind (P : Program) (n : Nat) (A : Nat → Prop) (w0 : World) (ops : Array Oper) (rest : List Oper) (Q : R → Exit → Act → World → Prop) (d : Nat) (ρ : Env) (K : R → Value → World → Prop) : Prop :=
  ∀ u Γ' E', JL P n A w0 ops rest Q ((d, u) :: ρ) Γ' E' → ∀ r, E' = some r → ∀ w, SH A w0 w Γ' → K r u w
theorem JL_inline {ops : Array Oper} {rest : List Oper} {d : Nat} {f : FuncId} {fn : Func} {body : Code} {n' : Nat} {args : List Operand} {ats : Array TypeId} {vs : List Value}
    (hw : Wants n ρ ops ⟨some d, .call ⟨.value (.func f), args.toArray, ats⟩, ty, pos, after, g⟩) (hd : Nat.blt d n = true)
    (hf : ∀ args w, (callFunc f args).run P w = .ok (.enter f args) w) (hargs : evL ρ args = some vs) (hfn : P.funcs[f]? = some fn) (hb : fn.body = some body) (hn : fn.ntmps = n') (hl : Nat.ble vs.length n' = true) (hρ : enum 0 vs = ρ')
    (h : ∀ K : R → Value → World → Prop, Behind P n A w0 ops rest Q d ρ K → J P n' A w0 body (QInl P fn K) ρ' Γ E) : JL P n A w0 ops (⟨some d, .call ⟨.value (.func f), args.toArray, ats⟩, ty, pos, after, g⟩ :: rest) Q ρ Γ E := by
  intro r hr a w hs hh
  refine wpList_step fun K hK => ?_
  rw [hw a hs]
  simp only [if_true]
  unfold Oper.wp
  rw [run_mark hs hf hargs, Oper.upon_enter]
  refine (calls_of_wp hfn hb (R := fun e w' => ∃ u, e = .returned u ∧ wpList P ops (Q r) rest (a.put (some d) u) w') ?_).mono ?_
  · have hJ := h (fun r u w' => wpList P ops (Q r) rest (a.put (some d) u) w') (fun u Γ' E' hJL r hE w hw' => hJL r hE _ w (hs.put (by simpa [Nat.blt_eq] using hd)) hw')
    refine hJ r hr _ w ⟨?_, rfl, ?_⟩ hh
    · simp [Nat.ble_eq] at hl
      simp [hn]; omega
    · intro t u ht
      rw [← hρ] at ht
      obtain ⟨_, h2⟩ := enum_get vs 0 t u ht
      simp at h2
      have hlt : t < vs.length := (List.getElem?_eq_some_iff.1 h2).1
      simp [Nat.ble_eq] at hl
      refine ⟨?_, by omega⟩
      simp [Array.getD_eq_getD_getElem?, Array.getElem?_append_left (show t < vs.toArray.size by simpa using hlt), h2]
  · rintro e w' ⟨u, rfl, hu⟩
    exact hK _ _ hu
theorem N_inl0 {fn : Func} {n2 : Nat} {ρ2 : Env} {ops : Array Oper} {rest : List Oper} {d : Nat} {K : R → Value → World → Prop} {e : Exit} (he : e = .ret ∨ e = .normal) (hK : Behind P n A w0 ops rest Q d ρ K) (hres : fn.results = #[])
    (h : JL P n A w0 ops rest Q ((d, .tuple #[]) :: ρ) Γ E) : N n2 A w0 (QInl P fn K) e ρ2 Γ E := by
  intro r hr a w hs hh
  have key : a.defers = [] ∧ ∃ u, (results fn a.tmps).run P w = .ok u w ∧ (∃ u', Ending.returned u = .returned u' ∧ K r u' w) := by
    refine ⟨hs.defers, .tuple #[], ?_, _, rfl, hK _ _ _ h r hr w hh⟩
    rw [results_rv, hres]
    simp
  rcases he with rfl | rfl <;> exact key
theorem N_inl1 {fn : Func} {n2 : Nat} {ρ2 : Env} {ops : Array Oper} {rest : List Oper} {d : Nat} {K : R → Value → World → Prop} {rv : ResultVar} {u : Value} (hK : Behind P n A w0 ops rest Q d ρ K) (hres : fn.results = #[rv]) (hu : Rv P n2 A w0 ρ2 Γ rv u)
    (h : JL P n A w0 ops rest Q ((d, u) :: ρ) Γ E) : N n2 A w0 (QInl P fn K) .ret ρ2 Γ E := by
  intro r hr a w hs hh
  refine ⟨hs.defers, u, ?_, _, rfl, hK _ _ _ h r hr w hh⟩
  rw [results_rv, hres]
  simp [hu a w hs hh]
theorem N_inl2 {fn : Func} {n2 : Nat} {ρ2 : Env} {ops : Array Oper} {rest : List Oper} {d : Nat} {K : R → Value → World → Prop} {rv1 rv2 : ResultVar} {u1 u2 : Value} (hK : Behind P n A w0 ops rest Q d ρ K) (hres : fn.results = #[rv1, rv2]) (hu1 : Rv P n2 A w0 ρ2 Γ rv1 u1) (hu2 : Rv P n2 A w0 ρ2 Γ rv2 u2)
    (h : JL P n A w0 ops rest Q ((d, .tuple #[u1, u2]) :: ρ) Γ E) : N n2 A w0 (QInl P fn K) .ret ρ2 Γ E := by
  intro r hr a w hs hh
  refine ⟨hs.defers, .tuple #[u1, u2], ?_, _, rfl, hK _ _ _ h r hr w hh⟩
  rw [results_rv, hres]
  simp [hu1 a w hs hh, hu2 a w hs hh]
theorem N_inl3 {fn : Func} {n2 : Nat} {ρ2 : Env} {ops : Array Oper} {rest : List Oper} {d : Nat} {K : R → Value → World → Prop} {rv1 rv2 rv3 : ResultVar} {u1 u2 u3 : Value} (hK : Behind P n A w0 ops rest Q d ρ K) (hres : fn.results = #[rv1, rv2, rv3]) (hu1 : Rv P n2 A w0 ρ2 Γ rv1 u1) (hu2 : Rv P n2 A w0 ρ2 Γ rv2 u2) (hu3 : Rv P n2 A w0 ρ2 Γ rv3 u3)
    (h : JL P n A w0 ops rest Q ((d, .tuple #[u1, u2, u3]) :: ρ) Γ E) : N n2 A w0 (QInl P fn K) .ret ρ2 Γ E := by
  intro r hr a w hs hh
  refine ⟨hs.defers, .tuple #[u1, u2, u3], ?_, _, rfl, hK _ _ _ h r hr w hh⟩
  rw [results_rv, hres]
  simp [hu1 a w hs hh, hu2 a w hs hh, hu3 a w hs hh]

/-! ### Ways that are not asked -/
theorem J_none {c : Code} : J P n A w0 c Q ρ Γ none := fun _ hr => by cases hr
theorem JL_none {ops : Array Oper} {l : List Oper} : JL P n A w0 ops l Q ρ Γ none := fun _ hr => by cases hr
theorem N_none {e : Exit} : N n A w0 Q e ρ Γ none := fun _ hr => by cases hr
theorem JL_conv {ops : Array Oper} {l : List Oper} {E' : Option R} (he : E = E') (h : JL P n A w0 ops l Q ρ Γ E') : JL P n A w0 ops l Q ρ Γ E := he ▸ h

/-! ### More operations -/
theorem ex_max {x y : Operand} {t u : TypeId} {m l : Int} (hx : ev ρ x = some (.int .i64 m)) (hy : ev ρ y = some (.int .i64 l)) : Ex P n A w0 ρ Γ ⟨d, .call ⟨.builtin .max, #[x, y], #[t, u]⟩, ty, pos, after, g⟩ (.int .i64 (if l > m then l else m)) := by
  intro a w hs hh
  simp [execOp, resolve, invoke, builtin, hs.eval hx, hs.eval hy, run_max_int2]
theorem ex_min {x y : Operand} {t u : TypeId} {m l : Int} (hx : ev ρ x = some (.int .i64 m)) (hy : ev ρ y = some (.int .i64 l)) : Ex P n A w0 ρ Γ ⟨d, .call ⟨.builtin .min, #[x, y], #[t, u]⟩, ty, pos, after, g⟩ (.int .i64 (if l < m then l else m)) := by
  intro a w hs hh
  simp [execOp, resolve, invoke, builtin, hs.eval hx, hs.eval hy, run_min_int2]
/-- Is it the nil slice? What it reads as does not tell. -/
theorem JL_eqnil {α : Type} [Rep α] {ops : Array Oper} {rest : List Oper} {d : Nat} {x : Operand} {t u e : TypeId} {v : Value} {xs : List α} (i : Nat) (ht : P.underlying t = some (.slice e)) (hx : ev ρ x = some v) (hi : Γ[i]? = some (.rd v xs)) (hw : Wants n ρ ops ⟨some d, .binOp .eql t x (.const (.slice none 0 0)) u, ty, pos, after, g⟩) (hd : Nat.blt d n = true)
    (h1 : xs = [] → JL P n A w0 ops rest Q ((d, .bool true) :: ρ) Γ E) (h2 : JL P n A w0 ops rest Q ((d, .bool false) :: ρ) Γ E) : JL P n A w0 ops (⟨some d, .binOp .eql t x (.const (.slice none 0 0)) u, ty, pos, after, g⟩ :: rest) Q ρ Γ E := by
  intro r hr a w hs hh
  have key : ∃ b, (execOp a.eval ⟨some d, .binOp .eql t x (.const (.slice none 0 0)) u, ty, pos, after, g⟩).run P w = .ok (.value (.bool b)) w ∧ (b = true → xs = []) := by
    have hv : ∃ ad m cap, v = .slice ad m cap ∧ (ad = none → xs = []) := by
      rcases Rd.sl (hh.get i hi) with ⟨rfl, ad, cap, rfl, _⟩ | ⟨b, off, cap, cells, rfl, _⟩
      · exact ⟨ad, 0, cap, rfl, fun _ => rfl⟩
      · exact ⟨_, _, _, rfl, by simp⟩
    obtain ⟨ad, m, cap, rfl, hx'⟩ := hv
    refine ⟨ad.isNone, ?_, fun h => hx' (by simpa using h)⟩
    have hc : a.eval (.const (.slice none 0 0)) = .slice none 0 0 := rfl
    simp only [execOp, hs.eval hx, hc, eqGuard, Sem.run_bind]
    simp [Go.Lib.run_eql_slice_nil w t e ad m cap 0 0 ht]
  obtain ⟨b, hrun, hb⟩ := key
  refine wpList_step fun K hK => ?_
  rw [hw a hs]
  simp only [if_true]
  unfold Oper.wp
  rw [hrun, Oper.upon_value]
  cases b with
  | true => exact hK _ _ (h1 (hb rfl) r hr _ _ (hs.put (by simpa [Nat.blt_eq] using hd)) hh)
  | false => exact hK _ _ (h2 r hr _ _ (hs.put (by simpa [Nat.blt_eq] using hd)) hh)
end
end Go.Tc
namespace Go.Tc
open Go Go.RowKit

section
variable {R : Type} {P : Program} {n : Nat} {A : Nat → Prop} {w0 w w' : World} {Q : R → Exit → Act → World → Prop} {ρ ρ' : Env} {Γ Γ' : Ctx} {E : Option R}
variable {d : Option Nat} {ty : TypeId} {pos : String} {after : Array Edge} {g : Option (Nat × Bool)}

/-- A row that lies in a row with tokens is taken out, with its tokens; the others are left. -/
theorem st_load_od_take {α : Type} [Rep α] {x : Operand} {t e : TypeId} {b cap len : Nat} {xs : List (List α)} {B : List Nat} {j : Int} {y : List α} (i : Nat) (ht : tinf P t = some (1, false)) (hx : ev ρ x = some (.pointer (some ⟨b, j.toNat * Rep.sz (List α), none⟩)))
    (hi : Γ[i]? = some (.od e (.slice (some ⟨b, 0, none⟩) len cap) xs B)) (hy : idx xs j = some y) :
    St P n A w0 ρ Γ ⟨d, .load t x, ty, pos, after, g⟩ (fun p : Value × List Nat => p.1) (fun p => .rd p.1 y :: .tkn p.1 y p.2 :: Γ.set i (.ow e (.slice (some ⟨b, 0, none⟩) len cap) xs)) [] := by
  intro a w hs hh
  have hli := (List.getElem?_eq_some_iff.1 hi).1
  obtain ⟨ts, e1, e2, e3, h1⟩ := hh.od_down i hi
  obtain ⟨h0, hlt, hy'⟩ := idx_eq hy
  have hjt : j.toNat < ts.length := by rw [← dats_length, e1]; exact hlt
  have hyt : idx ts j = some ts[j.toNat] := by
    unfold idx
    rw [if_neg (by omega), List.getElem?_eq_getElem hjt]
  have hty : ts[j.toNat].x = y := by
    have : (dats ts)[j.toNat]? = some y := by rw [e1]; exact hy'
    simpa [dats, hjt] using this
  obtain ⟨v, w', hrun, h2, h3, _⟩ := st_load_ow (α := Tk (List α)) (d := d) (ty := ty) (pos := pos) (after := after) (g := g) i ht hx (get_set hli) hyt a w hs h1
  obtain ⟨cs, hv, hdc, hav⟩ := h2.get 0 rfl
  rw [hty] at hdc
  have hsub : ∀ c ∈ ts[j.toNat].B, c ∈ B := fun c hc => e3 c (List.mem_flatMap.2 ⟨_, List.getElem_mem hjt, hc⟩)
  have hBt : ∀ c ∈ B, c ∈ Γ.toks := fun c hc => List.mem_flatMap.2 ⟨_, List.mem_of_getElem? hi, hc⟩
  have hnd : (ts[j.toNat].B).Nodup := by
    have key : ∀ (ts : List (Tk (List α))) (k : Nat) (hk : k < ts.length), (tks ts).Nodup → (ts[k].B).Nodup := by
      intro ts
      induction ts with
      | nil => intro k hk; simp at hk
      | cons t ts ih =>
        intro k hk hn
        simp only [tks, List.flatMap_cons, List.nodup_append] at hn
        cases k with
        | zero => exact hn.1
        | succ k => exact ih k (by simpa using hk) hn.2.1
    exact key ts _ hjt e2
  have h4 := (hh.grow h3).od_ow i hi
  have hDc : Dc w' v y ts[j.toNat].B := ⟨cs, hv, hdc⟩
  have h5 : SH A w0 w' (.tkn v y ts[j.toNat].B :: Γ.set i (.ow e (.slice (some ⟨b, 0, none⟩) len cap) xs)) := by
    refine h4.consT (Grow.refl w' []) (by simp [Fact.owns]) (by simp [Fact.owns]) ⟨⟨_, hDc, hnd, fun _ h => h⟩, fun c hc => ⟨hDc.lt c hc, ?_⟩⟩ ?_ (fun c hc => hh.tge c (hBt c (hsub c hc)))
    · have ho : Ctx.owns (Fact.tkn v y ts[j.toNat].B :: Γ.set i (.ow e (.slice (some ⟨b, 0, none⟩) len cap) xs)) = Γ.owns := by
        have h6 : Ctx.owns (Fact.tkn v y ts[j.toNat].B :: Γ.set i (.ow e (.slice (some ⟨b, 0, none⟩) len cap) xs)) = Ctx.owns (Γ.set i (.ow e (.slice (some ⟨b, 0, none⟩) len cap) xs)) := by simp [Ctx.owns, Fact.owns]
        rw [h6, owns_set_eq (f' := .ow e (.slice (some ⟨b, 0, none⟩) len cap) xs) hi rfl]
      rw [ho]
      rintro (hk | hk)
      · have := hh.av c hk
        have := hh.tge c (hBt c (hsub c hc))
        omega
      · exact (hh.tlt c (hBt c (hsub c hc))).2 hk
    · show (ts[j.toNat].B ++ Ctx.toks (Γ.set i (.ow e (.slice (some ⟨b, 0, none⟩) len cap) xs))).Nodup
      have p1 := toks_perm0 hi
      have p2 := toks_perm (f' := .ow e (.slice (some ⟨b, 0, none⟩) len cap) xs) hi
      simp only [Fact.toks, List.nil_append] at p1 p2
      have p3 := p2.append_left ts[j.toNat].B
      refine p3.nodup_iff.2 ?_
      have p4 := p1.nodup_iff.1 hh.tnd
      rw [List.nodup_append] at p4 ⊢
      exact ⟨hnd, p4.2.1, fun a ha b hb e => p4.2.2 a (hsub a ha) b hb e⟩
  refine ⟨(v, ts[j.toNat].B), w', hrun, h5.tkn_rd 0 rfl, h3, fun c hc => .inl ?_⟩
  have h6 : Ctx.owns (Fact.rd v y :: Fact.tkn v y ts[j.toNat].B :: Γ.set i (.ow e (.slice (some ⟨b, 0, none⟩) len cap) xs)) = Ctx.owns (Γ.set i (.ow e (.slice (some ⟨b, 0, none⟩) len cap) xs)) := by simp [Ctx.owns, Fact.owns]
  rw [h6, owns_set_eq (f' := .ow e (.slice (some ⟨b, 0, none⟩) len cap) xs) hi rfl] at hc
  exact hc

/-! ### copy -/
def cpy {α : Type} (xs ys : List α) : List α := ys.take (min xs.length ys.length) ++ xs.drop (min xs.length ys.length)
theorem cpy_length {α : Type} (xs ys : List α) : (cpy xs ys).length = xs.length := by simp [cpy]; omega
theorem st_copy {α : Type} [Rep α] {x y : Operand} {t e : TypeId} {ag : Bool} {v u : Value} {xs ys : List α} (i : Nat) (h1 : Rep.sz α = 1) (ht : P.underlying t = some (.slice e)) (he : tinf P e = some (1, ag)) (hx : ev ρ x = some v) (hy : ev ρ y = some u) (hi : Γ[i]? = some (.ow e v xs)) (hs' : ∀ w, SH A w0 w Γ → Src (fun k => A k ∨ k ∈ Γ.owns) w u ys) :
    St P n A w0 ρ Γ ⟨d, .call ⟨.builtin .copy, #[x, y], #[t, t]⟩, ty, pos, after, g⟩ (fun _ : Unit => .int .i64 ((min xs.length ys.length : Nat) : Int)) (fun _ => Γ.set i (.ow e v (cpy xs ys))) v.ownBlock.toList := by
  intro a w hs hh
  obtain ⟨cells, hown, hr⟩ := hh.get i hi
  have hsz : (P.info? e).map (·.size) = some 1 := by
    unfold tinf at he
    split at he
    · rename_i inf u' e1 e2
      simp at he
      simp [e1, he.1]
    · simp at he
  have hlx := RdL.length _ _ hr
  rw [h1, Nat.mul_one] at hlx
  have hsame : cpy xs ys = xs → ∀ w', w' = w → SH A w0 w' (Γ.set i (.ow e v (cpy xs ys))) := fun hc w' hw => by
    subst hw
    rw [hc, set_self hi]
    exact hh
  have hON : OwnNew Γ (Γ.set i (.ow e v (cpy xs ys))) w := .set hi (fun c hc => .inl hc)
  have hexec : (execOp a.eval ⟨d, .call ⟨.builtin .copy, #[x, y], #[t, t]⟩, ty, pos, after, g⟩).run P w = ((Builtin.copy_ #[t, t] ty #[v, u]).run P w).andThen fun r w' => .ok (.value r) w' := by
    simp [execOp, resolve, invoke, builtin, hs.eval hx, hs.eval hy]
  rw [show ((min xs.length ys.length : Nat) : Int) = ((min ys.length xs.length : Nat) : Int) by rw [Nat.min_comm]]
  rcases hs' w hh with ⟨rfl, rfl⟩ | ⟨ad, cap, news, rfl, hnc, hnews⟩
  · have hc : cpy xs [] = xs := by simp [cpy]
    refine ⟨(), w, ?_, hsame hc w rfl, Grow.refl w _, hON⟩
    rw [hexec]
    have hv : ∃ ad c, v = .slice ad xs.length c := by
      obtain ⟨_, hown⟩ := hown
      rcases hown with ⟨rfl, h0⟩ | ⟨gg, c, cur, rfl, _⟩
      · exact ⟨none, 0, by rw [h0]⟩
      · exact ⟨_, c, rfl⟩
    obtain ⟨ad, c, rfl⟩ := hv
    rw [run_copy_none w t t ty e ad none xs.length c 0 0 ht hsz (by simp)]
    simp [goInt]
  · have hln := RdL.length _ _ hnews
    rw [h1, Nat.mul_one] at hln
    obtain ⟨hl0, hown'⟩ := hown
    rcases hown' with ⟨rfl, h0⟩ | ⟨gg, c, cur, rfl, _, hg, hnc', hcm, hcs, htake⟩
    · have hx0 : xs = [] := List.eq_nil_of_length_eq_zero h0
      subst hx0
      have hc : cpy ([] : List α) ys = [] := by simp [cpy]
      refine ⟨(), w, ?_, hsame hc w rfl, Grow.refl w _, hON⟩
      rw [hexec, run_copy_none w t t ty e none (some ad) 0 0 ys.length cap ht hsz (by simp)]
      simp [goInt]
    · generalize hm : min ys.length xs.length = m
      have hnt : (news.take m).length = m := by rw [List.length_take]; omega
      have hfit : 0 + (news.take m).length ≤ cur.size := by rw [hnt, hcs, h1]; omega
      have hrun := run_copy_row (P := P) w t t ty e gg 0 xs.length c ad ys.length cap cur e (news.take m) ht hsz hg (by rw [hnt, ← hm]) (fun k v hk => hnc k v (by
          rw [List.getElem?_take] at hk
          split at hk
          · exact hk
          · simp at hk)) hfit (fun v hv => RdL.one _ _ hnews v (List.mem_of_mem_take hv))
      simp only [List.take_zero, List.nil_append, Nat.zero_add, hnt] at hrun
      refine ⟨(), w.setRow gg (news.take m ++ cur.toList.drop m).toArray, ?_, ?_, ⟨rfl, rfl, rfl, by simp, fun k _ hk => setRow_other w gg k _ (fun e => hk (by simp [Value.ownBlock, e]))⟩, hON⟩
      · rw [hexec, hrun]
        simp [goInt]
      · have hOe : Ctx.owns (Γ.set i (.ow e (.slice (some ⟨gg, 0, none⟩) xs.length c) (cpy xs ys))) = Γ.owns := owns_set_eq hi rfl
        have hgA : gg ∈ Γ.owns := List.mem_flatMap.2 ⟨_, List.mem_of_getElem? hi, by simp [Fact.owns, Value.ownBlock]⟩
        have hA : ∀ k, k < w.heap.size → ¬ (A k ∨ k ∈ Γ.owns) → (w.setRow gg (news.take m ++ cur.toList.drop m).toArray).heap[k]? = w.heap[k]? ∧ ¬ (A k ∨ k ∈ Γ.owns) := fun k hk hna => ⟨setRow_other w gg k _ (fun e => hna (.inr (e ▸ hgA))), hna⟩
        refine hh.set hi ⟨rfl, rfl, rfl, by simp, fun k _ hk => setRow_other w gg k _ (fun e => hk (by simp [Fact.owns, Value.ownBlock, e]))⟩ (by simp [Fact.owns, Value.ownBlock]) (fun k hk => ?_) ?_
        · simp [Fact.owns, Value.ownBlock] at hk
          subst hk
          exact ⟨.inl (by simp [Fact.owns, Value.ownBlock]), by simpa using lt_of_some hg⟩
        · rw [hOe]
          have hms : m ≤ xs.length := by omega
          have hcsz : cur.size = c := by rw [hcs, h1, Nat.mul_one]
          refine ⟨news.take m ++ cells.drop m, ⟨?_, .inr ⟨gg, c, _, ?_, Nat.zero_le _, setRow_heap w gg cur _ e _ hg, ?_, hcm, ?_, ?_⟩⟩, ?_⟩
          · rw [cpy_length, List.length_append, hnt, List.length_drop, hlx, h1]; omega
          · rw [cpy_length]
          · rw [cpy_length]; exact hnc'
          · simp only [List.size_toArray, List.length_append, hnt, List.length_drop, Array.length_toList]
            rw [hcsz, h1]; omega
          · rw [cpy_length, h1, Nat.mul_one] at *
            rw [← htake, List.take_append, hnt, List.take_of_length_le (by omega), List.drop_take]
          · have e1 : cpy xs ys = ys.take m ++ xs.drop m := by unfold cpy; rw [Nat.min_comm, hm]
            rw [e1]
            have t1 := RdL.take ys news m hnews
            have t2 := RdL.drop xs cells m hr
            rw [h1, Nat.mul_one] at t1 t2
            exact RdL.append _ _ _ _ (RdL.frame hA _ _ t1) (RdL.frame hA _ _ t2)

/-! ### nil, capacities, rows of zeros -/
theorem ex_cap_lit {x : Operand} {t e : TypeId} {m c : Nat} {ad : Option Addr} (ht : P.underlying t = some (.slice e)) (hx : ev ρ x = some (.slice ad m c)) : Ex P n A w0 ρ Γ ⟨d, .call ⟨.builtin .cap, #[x], #[t]⟩, ty, pos, after, g⟩ (.int .i64 (c : Int)) := by
  intro a w hs hh
  simp [execOp, resolve, invoke, builtin, hs.eval hx, Builtin.cap_, run_underlying ht, goInt]
theorem ex_slice_nil {x hi : Operand} {t e : TypeId} {ag : Bool} {s : Nat} (ht : P.underlying t = some (.slice e)) (he : tinf P e = some (s, ag)) (hx : ev ρ x = some (.slice none 0 0)) (hh' : ev ρ hi = some (.int .i64 0)) : Ex P n A w0 ρ Γ ⟨d, .slice t x none (some hi) none, ty, pos, after, g⟩ (.slice none 0 0) := by
  intro a w hs hh
  simp [execOp, hs.eval hx, hs.eval hh', Instr.sliceAt, Instr.slice, run_underlying ht, Instr.sliceBounds, Instr.sliceBound, asIntOf, tinf_size he]
/-- The begin of an own row: it is the row. -/
theorem st_slice_own {α : Type} [Rep α] {x : Operand} {t e : TypeId} {ag : Bool} {v : Value} {xs ys : List α} {hi : Operand} {h : Int} (i : Nat) (ht : P.underlying t = some (.slice e)) (he : tinf P e = some (Rep.sz α, ag)) (hx : ev ρ x = some v) (hhi : ev ρ hi = some (.int .i64 h))
    (hi' : Γ[i]? = some (.ow e v xs)) (hy : slc xs 0 h = some ys) : St P n A w0 ρ Γ ⟨d, .slice t x none (some hi) none, ty, pos, after, g⟩ (fun v' : Value => v') (fun v' => Γ.set i (.ow e v' ys)) [] := by
  intro a w hs hh
  obtain ⟨h0, h1, h2, rfl⟩ := slc_eq hy
  simp only [Int.toNat_zero, List.drop_zero]
  obtain ⟨cells, ⟨hl0, hown⟩, hr⟩ := hh.get i hi'
  have hlen : (xs.take h.toNat).length = h.toNat := by rw [List.length_take]; omega
  rcases hown with ⟨rfl, hz⟩ | ⟨gg, c, cur, rfl, hb, hg, hnc, hcm, hcs, htake⟩
  · have hx0 : xs = [] := List.eq_nil_of_length_eq_zero hz
    subst hx0
    simp at h2
    have hh0 : h = 0 := by omega
    subst hh0
    refine ⟨.slice none 0 0, w, ?_, ?_, Grow.refl w _, .set hi' (fun c hc => .inl hc)⟩
    · simp [execOp, hs.eval hx, hs.eval hhi, Instr.sliceAt, Instr.slice, run_underlying ht, Instr.sliceBounds, Instr.sliceBound, asIntOf, tinf_size he]
    · rw [List.take_nil, set_self hi']
      exact hh
  · refine ⟨.slice (some ⟨gg, 0, none⟩) h.toNat c, w, ?_, ?_, Grow.refl w _, .set hi' (fun c hc => .inl (by simpa [Fact.owns, Value.ownBlock] using hc))⟩
    · have hb2 : 0 ≤ h ∧ h ≤ (c : Int) := ⟨by omega, by omega⟩
      by_cases hc0 : c = 0
      · simp [execOp, hs.eval hx, hs.eval hhi, Instr.sliceAt, Instr.slice, run_underlying ht, Instr.sliceBounds, Instr.sliceBound, asIntOf, tinf_size he, Addr.add_lit, hb2, hc0]
        omega
      · simp [execOp, hs.eval hx, hs.eval hhi, Instr.sliceAt, Instr.slice, run_underlying ht, Instr.sliceBounds, Instr.sliceBound, asIntOf, tinf_size he, Addr.add_lit, hb2, hc0]
        try omega
    · have hOe : Ctx.owns (Γ.set i (.ow e (.slice (some ⟨gg, 0, none⟩) h.toNat c) (xs.take h.toNat))) = Γ.owns := owns_set_eq hi' rfl
      refine hh.set hi' (Grow.refl w _) (by simp [Fact.owns, Value.ownBlock]) (fun k hk => ⟨.inl (by simpa [Fact.owns, Value.ownBlock] using hk), ?_⟩) ?_
      · simp [Fact.owns, Value.ownBlock] at hk
        subst hk
        exact lt_of_some hg
      · rw [hOe]
        refine ⟨cells.take (h.toNat * Rep.sz α), ⟨?_, .inr ⟨gg, c, cur, by rw [hlen], hb, hg, by rw [hlen]; omega, hcm, hcs, ?_⟩⟩, RdL.take _ _ _ hr⟩
        · rw [hlen, List.length_take, hl0]
          have := Nat.mul_le_mul_right (Rep.sz α) (show h.toNat ≤ xs.length by omega)
          omega
        · rw [hlen, ← htake, List.take_take, Nat.min_eq_left (Nat.mul_le_mul_right _ (by omega))]
/-- A row of zeros, made by an append. -/
theorem st_zeros {α : Type} [Rep α] {x y : Operand} {t tn e : TypeId} {ag : Bool} {bytes : Nat} {zv : Value} {z : α} {k : Int} {xs : List α} (ht : P.underlying t = some (.slice e)) (htn : P.underlying tn = some (.int .i64)) (he : tinf P e = some (Rep.sz α, ag)) (hz : zinf P e = some zv) (hb : binf P e = some bytes) (hby : Nat.ble bytes 128 = true)
    (hzr : ∀ A w, ∃ zc : List Value, zv.cells = zc.toArray ∧ Rep.rdc A w zc z) (hx : ev ρ x = some (.slice none 0 0)) (hy : ev ρ y = some (.int .i64 k)) (hk0 : 0 < k) (hk : mke k z = some xs) :
    St P n A w0 ρ Γ ⟨d, .call ⟨.builtin .append, #[x, y], #[t, tn]⟩, ty, pos, after, g⟩ (fun v : Value => v) (fun v => .ow e v xs :: Γ) [] := by
  intro a w hs hh
  obtain ⟨h0, h1, rfl⟩ := mke_eq hk
  obtain ⟨inf, hinf, hz'⟩ := Option.bind_eq_some_iff.1 hz
  have hsz : inf.size = Rep.sz α := by
    have h1 := he
    unfold tinf at h1
    rw [hinf] at h1
    split at h1
    · rename_i i' u' e1 e2
      simp at e1 h1
      rw [e1]; exact h1.1
    · simp at h1
  have hbb : inf.bytes = bytes := by simpa [binf, hinf] using hb
  simp only [Nat.ble_eq] at hby
  obtain ⟨m, rfl⟩ := Int.eq_ofNat_of_zero_le h0
  simp only [Int.toNat_natCast] at hk h1 hy ⊢
  have hm0 : 0 < m := by omega
  have h48 : m * inf.bytes ≤ 281474976710656 := by
    rw [hbb]
    have := Nat.mul_le_mul (show m ≤ 1099511627776 by omega) hby
    omega
  have hrun := Go.Lib.run_append_nil_zeros (P := P) w t tn ty e inf zv .i64 .i64 ht htn hinf hz' m hm0 (by rw [hsz]; exact Rep.pos) (by omega) h48
  obtain ⟨zc, hzc, hzr⟩ := hzr (fun k' => A k' ∨ k' ∈ Ctx.owns (.ow e (.slice (some ⟨w.heap.size, 0, none⟩) m (grownCap w m 0 e)) (List.replicate m z) :: Γ)) w
  have hgc : m ≤ grownCap w m 0 e := grownCap_ge w _ _ _
  have hzl : zc.length = Rep.sz α := Rep.len hzr
  generalize hG : grownCap w m 0 e = G at hrun hgc hzr
  have hzs : zv.cells.size = Rep.sz α := by rw [hzc]; simpa using hzl
  have hcs : ∀ q, q < m * Rep.sz α → (Builtin.zeroCells zv.cells m ++ Builtin.zeroCells zv.cells (G - m))[q]? = (madeCells zc.toArray (m * Rep.sz α))[q]? := by
    intro q hq
    rw [Array.getElem?_append_left (by rw [size_zeroCells, hzs]; exact hq)]
    rw [hzc]
    simp [Builtin.zeroCells, madeCells, hzl, hq]
  refine ⟨.slice (some ⟨w.heap.size, 0, none⟩) m G, w.drew.alloc (.cells (Builtin.zeroCells zv.cells m ++ Builtin.zeroCells zv.cells (G - m)) e), ?_, ?_, (Grow.drew w []).trans (Grow.alloc w.drew _ []), .cons (by simp [Fact.owns, Value.ownBlock])⟩
  · simp [execOp, resolve, invoke, builtin, hs.eval hx, hs.eval hy, hrun]
  · have hhe : w.drew.heap.size = w.heap.size := rfl
    refine hh.drew.cons (Grow.alloc w.drew _ []) (by simp [Fact.owns, Value.ownBlock]) (by simp [Fact.owns, Value.ownBlock, hhe]) ?_
    refine ⟨(madeCells zc.toArray (m * Rep.sz α)).toList, ⟨?_, .inr ⟨w.heap.size, G, _, by simp, Nat.zero_le _, heap_alloc_new w.drew _, by simpa using hgc, ?_, ?_, ?_⟩⟩, ?_⟩
    · simp [size_madeCells]
    · have := grownCap_le_maxLen w m 0 e (by unfold maxLen; omega)
      rw [hG] at this
      exact this
    · simp only [Array.size_append, size_zeroCells, hzs]
      rw [← Nat.add_mul]; congr 1; omega
    · simp only [List.length_replicate]
      apply List.ext_getElem?
      intro q
      rw [List.getElem?_take]
      by_cases hq : q < m * Rep.sz α
      · rw [if_pos hq]
        have := hcs q hq
        rw [← Array.getElem?_toList, ← Array.getElem?_toList] at this
        exact this
      · rw [if_neg hq, List.getElem?_eq_none]
        simp [size_madeCells]; omega
    · refine RdL.frame ?_ _ _ (madeCells_rdL hzr m)
      intro k hk ha
      exact ⟨heap_alloc_old w.drew _ (by rw [hhe]; exact hk), ha⟩

/-! ### Parts of rows, handed on -/
/-- v', read as ys, is a part of v, read as xs. -/
def Sub {α : Type} [Rep α] (v : Value) (xs : List α) (v' : Value) (ys : List α) : Prop := (∀ w B, Dn w v xs B → Dn w v' ys B) ∧ ∀ A w, Rd A w v xs → Rd A w v' ys
theorem Sub.refl {α : Type} [Rep α] {v : Value} {xs : List α} : Sub v xs v xs := ⟨fun _ _ h => h, fun _ _ h => h⟩
theorem Sub.nil {α : Type} [Rep α] {v : Value} {xs : List α} : Sub v xs (.slice none 0 0) ([] : List α) := ⟨fun _ _ _ => dn_nil, fun _ _ _ => rdNil⟩
theorem Sub.trans {α : Type} [Rep α] {v v' v'' : Value} {xs ys zs : List α} (h : Sub v xs v' ys) (k : Sub v' ys v'' zs) : Sub v xs v'' zs := ⟨fun w B d => k.1 w B (h.1 w B d), fun A w r => k.2 A w (h.2 A w r)⟩
theorem DL.take {α : Type} [Rep α] {w : World} : ∀ (xs : List α) (cs : List Value) (B : List Nat) (k : Nat), DL w cs xs B → ∃ B', B'.Sublist B ∧ DL w (cs.take (k * Rep.sz α)) (xs.take k) B'
  | [], cs, B, k, h => ⟨[], List.nil_sublist _, by rw [h.1]; simp [DL]⟩
  | x :: r, cs, B, 0, h => ⟨[], List.nil_sublist _, by simp [DL]⟩
  | x :: r, cs, B, k + 1, ⟨c1, c2, B1, B2, e, eB, h1, h2⟩ => by
    subst e eB
    have l1 := Rep.len (Rep.dcr (A := nowhere) h1 fun _ _ h => h)
    obtain ⟨B', s', h'⟩ := DL.take r c2 B2 k h2
    refine ⟨B1 ++ B', List.Sublist.append (List.Sublist.refl _) s', c1, c2.take (k * Rep.sz α), B1, B', ?_, rfl, h1, h'⟩
    rw [show (k + 1) * Rep.sz α = c1.length + k * Rep.sz α by rw [Nat.add_mul, l1]; omega, List.take_length_add_append]
theorem DL.drop {α : Type} [Rep α] {w : World} : ∀ (xs : List α) (cs : List Value) (B : List Nat) (k : Nat), DL w cs xs B → ∃ B', B'.Sublist B ∧ DL w (cs.drop (k * Rep.sz α)) (xs.drop k) B'
  | [], cs, B, k, h => ⟨[], List.nil_sublist _, by rw [h.1]; simp [DL]⟩
  | x :: r, cs, B, 0, h => ⟨B, List.Sublist.refl _, by simpa using h⟩
  | x :: r, cs, B, k + 1, ⟨c1, c2, B1, B2, e, eB, h1, h2⟩ => by
    subst e eB
    have l1 := Rep.len (Rep.dcr (A := nowhere) h1 fun _ _ h => h)
    obtain ⟨B', s', h'⟩ := DL.drop r c2 B2 k h2
    refine ⟨B', s'.trans (List.sublist_append_right _ _), ?_⟩
    rw [show (k + 1) * Rep.sz α = c1.length + k * Rep.sz α by rw [Nat.add_mul, l1]; omega, List.drop_length_add_append]
    exact h'
/-- The value of a sub-slice. -/
def subv (s l h : Nat) : Value → Value
  | .slice ad _ cap => .slice (if cap = l then ad else ad.map (·.add (l * s))) (h - l) (cap - l)
  | v => v
theorem run_subv {t e : TypeId} {s len cap : Nat} {ag : Bool} {ad : Option Addr} {lo hi : Option Value} {l h : Int} (ht : P.underlying t = some (.slice e)) (he : tinf P e = some (s, ag)) (hlo : lo = none ∧ l = 0 ∨ lo = some (.int .i64 l)) (hhi : hi = none ∧ h = len ∨ hi = some (.int .i64 h)) (h0 : 0 ≤ l) (h1 : l ≤ h) (h2 : h ≤ len) (hc : len ≤ cap) :
    (Instr.sliceAt t (.slice ad len cap) lo hi none).run P w = .ok (subv s l.toNat h.toNat (.slice ad len cap)) w := by
  have hb2 : 0 ≤ h ∧ h ≤ (cap : Int) := ⟨by omega, by omega⟩
  have hb3 : 0 ≤ l ∧ l ≤ (len : Int) := ⟨h0, by omega⟩
  have hb4 : ¬ max h 0 < l := by omega
  have hb5 : l ≤ max h 0 := by omega
  rcases hlo with ⟨rfl, rfl⟩ | rfl <;> rcases hhi with ⟨rfl, rfl⟩ | rfl <;>
    simp [Instr.sliceAt, Instr.slice, run_underlying ht, Instr.sliceBounds, Instr.sliceBound, asIntOf, tinf_size he, subv, hb2, hb3, hb5]
theorem sub_subv {α : Type} [Rep α] {ad : Option Addr} {cap : Nat} {xs ys : List α} {l h : Int} (hy : slc xs l h = some ys) (hsp : ∀ a, ad = some a → a.spot = none) (hn : ad = none → cap = 0) (hcap : xs.length ≤ cap) (hcm : cap ≤ maxLen) : Sub (.slice ad xs.length cap) xs (subv (Rep.sz α) l.toNat h.toNat (.slice ad xs.length cap)) ys := by
  obtain ⟨h0, h1, h2, rfl⟩ := slc_eq hy
  have hlen : ((xs.take h.toNat).drop l.toNat).length = h.toNat - l.toNat := by simp; omega
  have hnone : ad = none → xs = [] ∧ l = 0 ∧ h = 0 := fun e => by
    have := hn e
    have : xs.length = 0 := by omega
    exact ⟨List.eq_nil_of_length_eq_zero this, by omega, by omega⟩
  refine ⟨fun w B hd => ?_, fun A w hr => ?_⟩
  · obtain ⟨B0, hdc, hnd, hsub⟩ := hd
    have hds := hdc.ds
    cases ad with
    | none =>
      obtain ⟨rfl, rfl, rfl⟩ := hnone rfl
      have := hn rfl
      subst this
      exact dn_nil
    | some a =>
      obtain ⟨b, off, sp⟩ := a
      have := hsp _ rfl
      simp only at this
      subst this
      rcases hds with ⟨rfl, rfl, _⟩ | ⟨b', off', cap', cells, Bs, arr, t, hv, hb, h3, h4, h5, h6, rfl⟩
      · simp at h2
        have : l = 0 := by omega
        have : h = 0 := by omega
        subst l h
        refine ⟨[], DS.dc (.inl ⟨by simp, rfl, _, cap, rfl, ?_, hcm⟩), by simp, by simp⟩
        split <;> simp
      · simp only [Value.slice.injEq, Option.some.injEq, Addr.mk.injEq, and_true] at hv
        obtain ⟨⟨rfl, rfl⟩, _, rfl⟩ := hv
        obtain ⟨B1, s1, d1⟩ := DL.take xs cells Bs h.toNat h6
        obtain ⟨B2, s2, d2⟩ := DL.drop _ _ B1 l.toNat d1
        have hs := s2.trans s1
        refine ⟨b :: B2, DS.dc (.inr ⟨b, if cap = l.toNat then off else off + l.toNat * Rep.sz α, cap - l.toNat, _, B2, arr, t, ?_, hb, ?_, ?_, ?_, d2, rfl⟩), hnd.sublist (hs.cons_cons b), fun c hc => hsub c ((hs.cons_cons b).subset hc)⟩
        · rw [hlen]
          simp only [subv]
          by_cases hc : cap = l.toNat <;> simp [hc, Addr.add_lit]
        · rw [hlen]; omega
        · omega
        · intro j u hj
          have hlt := (List.getElem?_eq_some_iff.1 hj).1
          simp at hlt
          by_cases hc : cap = l.toNat
          · exfalso
            have : h.toNat ≤ l.toNat := by omega
            have := Nat.mul_le_mul_right (Rep.sz α) this
            omega
          · rw [if_neg hc, Nat.add_assoc]
            refine h5 _ _ ?_
            rw [List.getElem?_drop, List.getElem?_take] at hj
            split at hj
            · exact hj
            · simp at hj
  · refine .mk_sl ?_
    rcases Rd.sl hr with ⟨rfl, _⟩ | ⟨b, off, cap', cells, hv, g1, g2, g3, g4, g5, g6⟩
    · simp at h2
      have : l = 0 := by omega
      have : h = 0 := by omega
      subst l h
      refine .inl ⟨by simp, _, cap, rfl, fun e => ?_, hcm⟩
      cases ad with
      | none => exact hn rfl
      | some a => split at e <;> simp at e
    · simp only [Value.slice.injEq] at hv
      obtain ⟨rfl, _, rfl⟩ := hv
      refine .inr ⟨b, if cap = l.toNat then off else off + l.toNat * Rep.sz α, cap - l.toNat, (cells.take (h.toNat * Rep.sz α)).drop (l.toNat * Rep.sz α), ?_, g1, g2, ?_, ?_, ?_, RdL.drop _ _ _ (RdL.take _ _ _ g6)⟩
      · rw [hlen]
        simp only [subv]
        by_cases hc : cap = l.toNat <;> simp [hc, Addr.add_lit]
      · rw [hlen]; omega
      · omega
      · intro j u hj
        have hlt := (List.getElem?_eq_some_iff.1 hj).1
        simp at hlt
        by_cases hc : cap = l.toNat
        · exfalso
          have : h.toNat ≤ l.toNat := by omega
          have := Nat.mul_le_mul_right (Rep.sz α) this
          omega
        · rw [if_neg hc, Nat.add_assoc]
          refine g5 _ _ ?_
          rw [List.getElem?_drop, List.getElem?_take] at hj
          split at hj
          · exact hj
          · simp at hj
/-- A sub-slice, and that it is a part. -/
theorem st_slice_sub {α : Type} [Rep α] {x : Operand} {t e : TypeId} {ag : Bool} {v : Value} {xs ys : List α} {lo hi : Option Operand} {l h : Int} (i : Nat) (ht : P.underlying t = some (.slice e)) (he : tinf P e = some (Rep.sz α, ag)) (hx : ev ρ x = some v) (hlo : bound ρ lo 0 = some l) (hhi : bound ρ hi xs.length = some h)
    (hi' : Γ[i]? = some (.rd v xs)) (hy : slc xs l h = some ys) : St P n A w0 ρ Γ ⟨d, .slice t x lo hi none, ty, pos, after, g⟩ (fun v' : Value => v') (fun v' => .rd v' ys :: .pr (Sub v xs v' ys) :: Γ) [] := by
  intro a w hs hh
  have hr := Rd.sl (hh.get i hi')
  have hv : ∃ ad cap, v = .slice ad xs.length cap ∧ (∀ a, ad = some a → xs = [] ∨ a.spot = none) ∧ (ad = none → cap = 0) ∧ xs.length ≤ cap ∧ cap ≤ maxLen := by
    rcases hr with ⟨rfl, ad, cap, rfl, hn, hcm⟩ | ⟨b, off, cap, cells, rfl, g1, g2, g3, g4, g5, g6⟩
    · exact ⟨ad, cap, rfl, fun _ _ => .inl rfl, hn, Nat.zero_le _, hcm⟩
    · exact ⟨_, cap, rfl, fun a e => by cases e; exact .inr rfl, by simp, g3, g4⟩
  obtain ⟨ad, cap, rfl, hsp, hn, hcap, hcm⟩ := hv
  obtain ⟨h0, h1, h2, _⟩ := slc_eq hy
  have hrun := run_subv (P := P) (w := w) (ad := ad) (cap := cap) ht he (bound_val hs hlo) (bound_val hs hhi) h0 h1 h2 hcap
  have hsub : Sub (.slice ad xs.length cap) xs (subv (Rep.sz α) l.toNat h.toNat (.slice ad xs.length cap)) ys := by
    by_cases hx0 : xs = []
    · subst hx0
      obtain ⟨_, _, _, rfl⟩ := slc_eq hy
      simp at h2
      have : l = 0 := by omega
      have : h = 0 := by omega
      subst l h
      simp only [List.take_nil, List.drop_nil]
      have hform : ∃ ad', subv (Rep.sz α) (Int.toNat 0) (Int.toNat 0) (.slice ad ([] : List α).length cap) = .slice ad' 0 cap ∧ (ad' = none → cap = 0) := by
        refine ⟨_, rfl, fun e => ?_⟩
        cases ad with
        | none => exact hn rfl
        | some a => split at e <;> simp at e
      obtain ⟨ad', he', hn'⟩ := hform
      rw [he']
      exact ⟨fun w B _ => ⟨[], DS.dc (.inl ⟨rfl, rfl, ad', cap, rfl, hn', hcm⟩), by simp, by simp⟩, fun A w _ => .mk_sl (.inl ⟨rfl, ad', cap, rfl, hn', hcm⟩)⟩
    · exact sub_subv hy (fun a e => (hsp a e).resolve_left hx0) hn hcap hcm
  refine ⟨subv (Rep.sz α) l.toNat h.toNat (.slice ad xs.length cap), w, ?_, ?_, Grow.refl w _, .plain rfl⟩
  · simp only [execOp, hs.eval hx, Option.map_none]
    simp [hrun]
  · have h3 : SH A w0 w (.pr (Sub (.slice ad xs.length cap) xs (subv (Rep.sz α) l.toNat h.toNat (.slice ad xs.length cap)) ys) :: Γ) := hh.cons (Grow.refl w []) (by simp [Fact.owns]) (by simp [Fact.owns]) hsub
    refine h3.cons_rd ?_
    have := hsub.2 _ w (hh.get i hi')
    simpa [Ctx.owns, Fact.owns] using this
theorem sq_slice_sub {α : Type} [Rep α] {x : Operand} {t e : TypeId} {ag : Bool} {v : Value} {xs ys : List α} {lo hi : Option Operand} {l h : Int} (i : Nat) (ht : P.underlying t = some (.slice e)) (he : tinf P e = some (Rep.sz α, ag)) (hx : ev ρ x = some v) (hlo : bound ρ lo 0 = some l) (hhi : bound ρ hi xs.length = some h)
    (hi' : Γ[i]? = some (.rd v xs)) (hy : slc xs l h = some ys) : Sq P n A w0 ρ Γ ⟨d, .slice t x lo hi none, ty, pos, after, g⟩ (fun v' : Value => v') (fun v' => [.rd v' ys, .pr (Sub v xs v' ys)] ++ Γ) := by
  intro a w hs hh
  obtain ⟨v1, hrun1, hh1⟩ := sq_slice (d := d) (ty := ty) (pos := pos) (after := after) (g := g) i ht he hx hlo hhi hi' hy a w hs hh
  obtain ⟨v2, w2, hrun2, hh2, _⟩ := st_slice_sub (d := d) (ty := ty) (pos := pos) (after := after) (g := g) i ht he hx hlo hhi hi' hy a w hs hh
  have h3 := hrun1 w (fun _ _ _ => rfl)
  rw [h3] at hrun2
  cases hrun2
  exact ⟨v1, hrun1, hh2⟩
/-- A sub-slice of an own row, only read while the row stays. -/
theorem st_slice_bor {α : Type} [Rep α] {x : Operand} {t e e' : TypeId} {ag : Bool} {v : Value} {xs ys : List α} {lo hi : Option Operand} {l h : Int} (i : Nat) (ht : P.underlying t = some (.slice e)) (he : tinf P e = some (Rep.sz α, ag)) (hx : ev ρ x = some v) (hlo : bound ρ lo 0 = some l) (hhi : bound ρ hi xs.length = some h)
    (hi' : Γ[i]? = some (.ow e' v xs)) (hy : slc xs l h = some ys) : St P n A w0 ρ Γ ⟨d, .slice t x lo hi none, ty, pos, after, g⟩ (fun v' : Value => v') (fun v' => [.pr (Sub v xs v' ys)] ++ Γ) [] := by
  intro a w hs hh
  have hf := hh.freeze i hi'
  obtain ⟨v', w', hrun, h1, h2, _⟩ := st_slice_sub (Γ := Γ.set i (.rd v xs)) (d := d) (ty := ty) (pos := pos) (after := after) (g := g) i ht he hx hlo hhi (get_set (List.getElem?_eq_some_iff.1 hi').1) hy a w hs hf
  exact ⟨v', w', hrun, (hh.grow h2).cons (Grow.refl w' []) (by simp [Fact.owns]) (by simp [Fact.owns]) (h1.get 1 rfl), h2, .plain rfl⟩
theorem SH.pr {p : Prop} (h : SH A w0 w Γ) (i : Nat) (hi : Γ[i]? = some (.pr p)) : p := h.get i hi
/-- The tokens go over to the part. -/
theorem SH.sub_tkn {α : Type} [Rep α] {v v' : Value} {xs ys : List α} {B : List Nat} (h : SH A w0 w Γ) (i : Nat) (hi : Γ[i]? = some (.tkn v xs B)) (hs : Sub v xs v' ys) : SH A w0 w (Γ.set i (.tkn v' ys B)) := by
  refine h.retell hi rfl (fun hk => ⟨hs.1 _ _ hk.1, hk.2⟩) ?_ (fun b hb => h.tge b (List.mem_flatMap.2 ⟨_, List.mem_of_getElem? hi, hb⟩))
  refine (toks_perm (f' := .tkn v' ys B) hi).nodup_iff.2 ?_
  exact (toks_perm0 hi).nodup_iff.1 h.tnd
theorem SH.sub_rd {α : Type} [Rep α] {v v' : Value} {xs ys : List α} (h : SH A w0 w Γ) (i : Nat) (hi : Γ[i]? = some (.rd v xs)) (hs : Sub v xs v' ys) : SH A w0 w (.rd v' ys :: Γ) := h.cons_rd (hs.2 _ _ (h.get i hi))
theorem SH.cons_pr {p : Prop} (h : SH A w0 w Γ) (hp : p) : SH A w0 w (.pr p :: Γ) := h.cons (Grow.refl w []) (by simp [Fact.owns]) (by simp [Fact.owns]) hp

/-! ### Among orders -/
section
variable {w1 : World} {Γ1 : Ctx} {ops : Array Oper} {O : List Nat} {fuel : Nat} {listed : Array Bool}
theorem JP_ow_open {α : Type} [Rep α] {e : TypeId} {v : Value} {xs : List α} {j : Int} {y : α} (i : Nat) (hi : Γ[i]? = some (.ow e v xs)) (hj : idx xs j = some y)
    (h : ∀ b cap, v = .slice (some ⟨b, 0, none⟩) xs.length cap → JP P n A w0 ops O fuel listed Q ρ Γ E) : JP P n A w0 ops O fuel listed Q ρ Γ E := by
  intro r hr a w hs hh
  obtain ⟨cells, ⟨_, hown⟩, _⟩ := hh.get i hi
  rcases hown with ⟨rfl, h0⟩ | ⟨gg, cap, cur, hv, _⟩
  · have := (idx_eq hj).2.1
    omega
  · exact h gg cap hv r hr a w hs hh
theorem JP_od_open {α : Type} [Rep α] {e : TypeId} {v : Value} {xs : List α} {B : List Nat} {j : Int} {y : α} (i : Nat) (hi : Γ[i]? = some (.od e v xs B)) (hj : idx xs j = some y)
    (h : ∀ b cap, v = .slice (some ⟨b, 0, none⟩) xs.length cap → JP P n A w0 ops O fuel listed Q ρ Γ E) : JP P n A w0 ops O fuel listed Q ρ Γ E := by
  intro r hr a w hs hh
  obtain ⟨⟨cells, B0, ⟨_, hown⟩, _⟩, _⟩ := hh.get i hi
  rcases hown with ⟨rfl, h0⟩ | ⟨gg, cap, cur, hv, _⟩
  · have := (idx_eq hj).2.1
    omega
  · exact h gg cap hv r hr a w hs hh
theorem JD_ow_open {α : Type} [Rep α] {e : TypeId} {v : Value} {xs : List α} {j : Int} {y : α} (i : Nat) (hi : Γ[i]? = some (.ow e v xs)) (hj : idx xs j = some y)
    (h : ∀ b cap, v = .slice (some ⟨b, 0, none⟩) xs.length cap → JD P n A w0 w1 Γ1 ops O fuel listed Q ρ Γ E) : JD P n A w0 w1 Γ1 ops O fuel listed Q ρ Γ E := by
  intro r hr a w hs hh hg hn
  obtain ⟨cells, ⟨_, hown⟩, _⟩ := hh.get i hi
  rcases hown with ⟨rfl, h0⟩ | ⟨gg, cap, cur, hv, _⟩
  · have := (idx_eq hj).2.1
    omega
  · exact h gg cap hv r hr a w hs hh hg hn
theorem JD_od_open {α : Type} [Rep α] {e : TypeId} {v : Value} {xs : List α} {B : List Nat} {j : Int} {y : α} (i : Nat) (hi : Γ[i]? = some (.od e v xs B)) (hj : idx xs j = some y)
    (h : ∀ b cap, v = .slice (some ⟨b, 0, none⟩) xs.length cap → JD P n A w0 w1 Γ1 ops O fuel listed Q ρ Γ E) : JD P n A w0 w1 Γ1 ops O fuel listed Q ρ Γ E := by
  intro r hr a w hs hh hg hn
  obtain ⟨⟨cells, B0, ⟨_, hown⟩, _⟩, _⟩ := hh.get i hi
  rcases hown with ⟨rfl, h0⟩ | ⟨gg, cap, cur, hv, _⟩
  · have := (idx_eq hj).2.1
    omega
  · exact h gg cap hv r hr a w hs hh hg hn
theorem sub_od {α : Type} [Rep α] {js : List Nat} {e : TypeId} {v : Value} {xs : List α} {B : List Nat} (m : Nat) (hm : (sel js Γ)[m]? = some (.od e v xs B)) : ∀ k ∈ v.ownBlock.toList, k ∈ (sel js Γ).owns := owns_sub m hm
theorem sub_owl {α : Type} [Rep α] {js : List Nat} {e : TypeId} {b len cap : Nat} {xs : List α} (m : Nat) (hm : (sel js Γ)[m]? = some (.ow e (.slice (some ⟨b, 0, none⟩) len cap) xs)) : ∀ k ∈ [b], k ∈ (sel js Γ).owns := owns_sub m hm
theorem sub_odl {α : Type} [Rep α] {js : List Nat} {e : TypeId} {b len cap : Nat} {xs : List α} {B : List Nat} (m : Nat) (hm : (sel js Γ)[m]? = some (.od e (.slice (some ⟨b, 0, none⟩) len cap) xs B)) : ∀ k ∈ [b], k ∈ (sel js Γ).owns := owns_sub m hm
/-- What a fact owns that took the place of one that the region changes: it is that one's, or new. -/
theorem own_twice {f : Fact} (m : Nat) (js is1 is2 : List Nat) (hm : Γ[m]? = some f) (hnd : ndup (m :: is2) = true) (hcov : (List.range Γ1.length).all (fun i => (js ++ is1).any (Nat.beq i)) = true) (hs : sel is1 Γ1 = sel is2 Γ) (hO : (sel js Γ1).owns = O)
    (hh : SH A w0 w Γ) (hon : OwnNew Γ1 Γ w1) : ∀ k ∈ f.owns, k ∈ O ∨ w1.heap.size ≤ k := by
  intro k hk
  have hkΓ : k ∈ Γ.owns := List.mem_flatMap.2 ⟨f, List.mem_of_getElem? hm, hk⟩
  rcases hon k hkΓ with h1 | h1
  · left
    obtain ⟨f1, hf1, hk1⟩ := List.mem_flatMap.1 h1
    obtain ⟨i, hi⟩ := List.mem_iff_getElem?.1 hf1
    have hlt := (List.getElem?_eq_some_iff.1 hi).1
    have := List.all_eq_true.1 hcov i (List.mem_range.2 hlt)
    rw [List.any_eq_true] at this
    obtain ⟨i', hi', e⟩ := this
    have e := Nat.eq_of_beq_eq_true e
    subst e
    have selmem : ∀ (is : List Nat), i ∈ is → k ∈ (sel is Γ1).owns := by
      intro is
      induction is with
      | nil => intro h; simp at h
      | cons q is ih =>
        intro h
        simp only [sel]
        rcases List.mem_cons.1 h with rfl | h
        · rw [hi]
          simp only [Ctx.owns, List.flatMap_cons, List.mem_append]
          exact .inl hk1
        · have := ih h
          cases hq : Γ1[q]? with
          | none => exact this
          | some f' =>
            simp only [Ctx.owns, List.flatMap_cons, List.mem_append]
            exact .inr this
    rcases List.mem_append.1 hi' with hi' | hi'
    · rw [← hO]
      exact selmem js hi'
    · have h2 := selmem is1 hi'
      rw [hs] at h2
      obtain ⟨m2, hm2, f2, hf2, hk2⟩ := sel_owns is2 Γ k h2
      simp only [ndup, Bool.and_eq_true, Bool.not_eq_true', List.any_eq_false] at hnd
      exact (nodup_two hh.nd hm hf2 (fun e => by subst e; exact hnd.1 m hm2 (Nat.beq_refl m)) hk hk2).elim
  · exact .inr h1
theorem Grow.more2 {w w' : World} {T : List Nat} (h1 : Grow w1 w O) (h2 : Grow w w' T) (hT : ∀ k ∈ T, k ∈ O ∨ w1.heap.size ≤ k) : Grow w1 w' O :=
  ⟨h2.os.trans h1.os, h2.tape.trans h1.tape, h2.output.trans h1.output, Nat.le_trans h1.size h2.size, fun k hk hs => (h2.block k (Nat.lt_of_lt_of_le hk h1.size) (fun hm => (hT k hm).elim hs (fun h => by omega))).trans (h1.block k hk hs)⟩
variable {ty : TypeId} {pos : String} {after : Array Edge} {g : Option (Nat × Bool)}
theorem JO_st2 {i d : Nat} {op : Op} {G : Type} {v : G → Value} {Γ' : G → Ctx} {f : Fact} (m : Nat) (js is1 is2 : List Nat) (hm : Γ[m]? = some f) (hnd : ndup (m :: is2) = true) (hcov : (List.range Γ1.length).all (fun i => (js ++ is1).any (Nat.beq i)) = true) (hsl : sel is1 Γ1 = sel is2 Γ) (hO : (sel js Γ1).owns = O)
    (hi : ops[i]? = some ⟨some d, op, ty, pos, after, g⟩) (hw : Wants n ρ ops ⟨some d, op, ty, pos, after, g⟩) (hd : Nat.blt d n = true) {T : List Nat} (hx : St P n A w0 ρ Γ ⟨some d, op, ty, pos, after, g⟩ v Γ' T) (hTf : ∀ k ∈ T, k ∈ f.owns)
    (h : ∀ x, JD P n A w0 w1 Γ1 ops O fuel (listed.setIfInBounds i true) Q ((d, v x) :: ρ) (Γ' x) E) : JO P n A w0 w1 Γ1 ops O fuel listed Q i ρ Γ E := by
  intro r hr' a w hsa hh hg hon
  obtain ⟨x, w', hrun, hh', hgr, hno⟩ := hx a w hsa hh
  have hT : ∀ k ∈ T, k ∈ O ∨ w1.heap.size ≤ k := fun k hk => own_twice m js is1 is2 hm hnd hcov hsl hO hh hon k (hTf k hk)
  unfold wpOp
  simp only [hi, hw a hsa, if_true]
  refine .inl ?_
  unfold Oper.wp
  rw [hrun, Oper.upon_value]
  exact ⟨hg.more2 hgr hT, h x r hr' _ _ (hsa.put (by simpa [Nat.blt_eq] using hd)) hh' (hg.more2 hgr hT) (hon.trans hg hno)⟩
theorem JO_sk2 {i : Nat} {op : Op} {f : Fact} (m : Nat) (js is1 is2 : List Nat) (hm : Γ[m]? = some f) (hnd : ndup (m :: is2) = true) (hcov : (List.range Γ1.length).all (fun i => (js ++ is1).any (Nat.beq i)) = true) (hsl : sel is1 Γ1 = sel is2 Γ) (hO : (sel js Γ1).owns = O)
    (hi : ops[i]? = some ⟨none, op, ty, pos, after, g⟩) (hw : Wants n ρ ops ⟨none, op, ty, pos, after, g⟩) {T : List Nat} (hx : Sk P n A w0 ρ Γ ⟨none, op, ty, pos, after, g⟩ Γ' T) (hTf : ∀ k ∈ T, k ∈ f.owns)
    (h : JD P n A w0 w1 Γ1 ops O fuel (listed.setIfInBounds i true) Q ρ Γ' E) : JO P n A w0 w1 Γ1 ops O fuel listed Q i ρ Γ E := by
  intro r hr' a w hsa hh hg hon
  obtain ⟨w', hrun, hh', hgr, hno⟩ := hx a w hsa hh
  have hT : ∀ k ∈ T, k ∈ O ∨ w1.heap.size ≤ k := fun k hk => own_twice m js is1 is2 hm hnd hcov hsl hO hh hon k (hTf k hk)
  unfold wpOp
  simp only [hi, hw a hsa, if_true]
  refine .inl ?_
  unfold Oper.wp
  rw [hrun, Oper.upon_skip]
  exact ⟨hg.more2 hgr hT, h r hr' _ _ hsa hh' (hg.more2 hgr hT) (hon.trans hg hno)⟩
end
end
end Go.Tc
namespace Go.Tc
open Go Go.RowKit

section
variable {A : Nat → Prop} {w0 w w' : World} {Γ Γ' Δ : Ctx}
theorem SH.perm (h : SH A w0 w Γ) (hp : Γ.Perm Γ') : SH A w0 w Γ' := by
  have ho : Γ.owns.Perm Γ'.owns := hp.flatMap_right _
  have ht : Γ.toks.Perm Γ'.toks := hp.flatMap_right _
  refine ⟨h.below, h.av, ho.nodup_iff.1 h.nd, fun b hb => h.ge b (ho.mem_iff.2 hb), ht.nodup_iff.1 h.tnd, fun b hb => h.tge b (ht.mem_iff.2 hb), fun f hf => ?_⟩
  refine Fact.frame (Nat.le_refl _) (h.all f (hp.mem_iff.2 hf)) (fun _ _ => rfl) (fun _ _ => rfl) (fun k _ ha => ⟨rfl, ?_⟩)
  rintro (hk | hk)
  · exact ha (.inl hk)
  · exact ha (.inr (ho.mem_iff.2 hk))
end

/-- An operation that makes memory: its place, its slot, what it gives and the facts that it adds. -/
structure POp where
  i : Nat
  d : Nat
  G : Type
  v : G → Value
  fs : G → Ctx
/-- What is known when all are done. -/
def PAll : List POp → (Env → Ctx → Prop) → Env → Ctx → Prop
  | [], K, ρ, Γ => K ρ Γ
  | p :: S, K, ρ, Γ => ∀ x : p.G, PAll S K ((p.d, p.v x) :: ρ) (p.fs x ++ Γ)
/-- The operation does its work in every state that has grown. -/
def PStep (P : Program) (n : Nat) (A : Nat → Prop) (w0 : World) (ops : Array Oper) (ρ : Env) (Γ : Ctx) (p : POp) : Prop :=
  ∀ (Δ : Ctx) (Q : Exit → Act → World → Prop) (a : Act) (w : World) (K : Act → World → Prop), Sat n ρ a → SH A w0 w (Γ ++ Δ) →
    (∀ x w', SH A w0 w' (p.fs x ++ (Γ ++ Δ)) → Grow w w' [] → OwnNew (Γ ++ Δ) (p.fs x ++ (Γ ++ Δ)) w → K (a.put (some p.d) (p.v x)) w') → wpOp P ops Q p.i K a w
def PSteps (P : Program) (n : Nat) (A : Nat → Prop) (w0 : World) (ops : Array Oper) (ρ : Env) (Γ : Ctx) : List POp → Prop
  | [] => True
  | p :: S => PStep P n A w0 ops ρ Γ p ∧ PSteps P n A w0 ops ρ Γ S
theorem PSteps.get {P : Program} {n : Nat} {A : Nat → Prop} {w0 : World} {ops : Array Oper} {ρ : Env} {Γ : Ctx} : ∀ {S : List POp}, PSteps P n A w0 ops ρ Γ S → ∀ p ∈ S, PStep P n A w0 ops ρ Γ p
  | _ :: _, h, p, hp => by
    rcases List.mem_cons.1 hp with rfl | hp
    · exact h.1
    · exact h.2.get p hp

/-- Each of the operations waits for what is done or for those ahead of it alone. -/
def topOk (ops : Array Oper) (listed : Array Bool) : List Nat → List Nat → Bool
  | _, [] => true
  | pre, i :: r => Nat.blt i listed.size && !(listed.getD i true) && (match ops[i]? with | none => false | some o => o.after.all fun e => !Region.binds .any e || listed.getD e.on false || pre.contains e.on) && topOk ops listed (i :: pre) r
/-- No other operation comes up before all of S are done. -/
def parOk (ops : Array Oper) (listed : Array Bool) (is : List Nat) : Bool :=
  topOk ops listed [] is &&
  (List.range ops.size).all fun j => listed.getD j true || is.contains j || match ops[j]? with
    | none => true
    | some o => (is.all fun i => o.after.any fun e => Region.binds .any e && e.on == i) || o.after.any fun e => Region.binds .any e && !(listed.getD e.on false) && !(is.contains e.on)
def setAll (listed : Array Bool) (is : List Nat) : Array Bool := is.foldl (fun l i => l.setIfInBounds i true) listed
theorem setAll_size : ∀ (is : List Nat) (listed : Array Bool), (setAll listed is).size = listed.size
  | [], _ => rfl
  | i :: is, l => by
    show (setAll (l.setIfInBounds i true) is).size = l.size
    rw [setAll_size is]; simp
theorem setAll_get : ∀ (is : List Nat) (listed : Array Bool) (j : Nat), (setAll listed is)[j]? = if j ∈ is ∧ j < listed.size then some true else listed[j]?
  | [], _, _ => by simp [setAll]
  | i :: is, l, j => by
    show (setAll (l.setIfInBounds i true) is)[j]? = _
    rw [setAll_get is, Array.size_setIfInBounds, Array.getElem?_setIfInBounds]
    by_cases h1 : j ∈ is
    · by_cases h2 : j < l.size
      · simp [h1, h2]
      · by_cases h3 : i = j
        · subst h3; simp [h2]
        · simp [h2, h3]
    · by_cases h3 : i = j
      · subst h3
        by_cases h2 : i < l.size
        · simp [h1, h2]
        · simp [h2]
      · simp [h1, h3, Ne.symm h3]
theorem setAll_perm {is js : List Nat} (h : is.Perm js) (listed : Array Bool) : setAll listed is = setAll listed js := by
  apply Array.ext_getElem?
  intro j
  rw [setAll_get, setAll_get]
  simp only [h.mem_iff]
theorem setAll_snoc (listed : Array Bool) (is : List Nat) (i : Nat) : setAll listed (is ++ [i]) = (setAll listed is).setIfInBounds i true := by
  simp [setAll, List.foldl_append]
theorem getD_eq {l : Array Bool} {j : Nat} {b : Bool} : l.getD j b = (l[j]?).getD b := by simp [Array.getD_eq_getD_getElem?]
theorem mem_ready {ops : Array Oper} {l : Array Bool} {j : Nat} : j ∈ Region.ready .any ops l ↔ j < ops.size ∧ l.getD j true = false ∧ ∃ o, ops[j]? = some o ∧ ∀ e ∈ o.after, Region.binds .any e = true → l.getD e.on false = true := by
  unfold Region.ready
  rw [List.mem_filter, List.mem_range]
  constructor
  · rintro ⟨h1, h2⟩
    simp only [Bool.and_eq_true, Bool.not_eq_true'] at h2
    refine ⟨h1, h2.1, ops[j], by simp [h1], fun e he hb => ?_⟩
    have h3 := h2.2
    simp only [Array.getElem?_eq_getElem h1, Option.map_some, Option.getD_some] at h3
    have := Array.all_eq_true_iff_forall_mem.1 h3 e he
    simpa [hb] using this
  · rintro ⟨h1, h2, o, ho, h3⟩
    refine ⟨h1, ?_⟩
    simp only [Bool.and_eq_true, Bool.not_eq_true', ho, Option.map_some, Option.getD_some]
    refine ⟨h2, Array.all_eq_true_iff_forall_mem.2 fun e he => ?_⟩
    cases hb : Region.binds .any e with
    | false => rfl
    | true => simpa [hb] using h3 e he hb
theorem topOk_mem {ops : Array Oper} {listed : Array Bool} : ∀ {is pre : List Nat}, topOk ops listed pre is = true → ∀ i ∈ is, i < listed.size ∧ listed.getD i true = false
  | x :: r, pre, h, i, hi => by
    unfold topOk at h
    simp only [Bool.and_eq_true, Nat.blt_eq, Bool.not_eq_true'] at h
    rcases List.mem_cons.1 hi with rfl | hi
    · exact ⟨h.1.1.1, h.1.1.2⟩
    · exact topOk_mem h.2 i hi
theorem topOk_ready {ops : Array Oper} {listed : Array Bool} {ds : List Nat} : ∀ {is pre : List Nat}, topOk ops listed pre is = true → (∀ x ∈ pre, x ∈ ds ∧ x < listed.size) → (∃ t ∈ is, t ∉ ds) → ∃ u, u ∈ Region.ready .any ops (setAll listed ds)
  | [], _, _, _, ⟨t, ht, _⟩ => by simp at ht
  | x :: r, pre, h, hpre, ⟨t, ht, htd⟩ => by
    have h0 := h
    unfold topOk at h
    simp only [Bool.and_eq_true, Nat.blt_eq, Bool.not_eq_true'] at h
    by_cases hx : x ∈ ds
    · refine topOk_ready h.2 (fun y hy => ?_) ⟨t, ?_, htd⟩
      · rcases List.mem_cons.1 hy with rfl | hy
        · exact ⟨hx, h.1.1.1⟩
        · exact hpre y hy
      · rcases List.mem_cons.1 ht with rfl | ht
        · exact absurd hx htd
        · exact ht
    · refine ⟨x, mem_ready.2 ?_⟩
      cases ho : ops[x]? with
      | none => rw [ho] at h; simp at h
      | some o =>
        have h3 := h.1.2
        rw [ho] at h3
        simp only at h3
        refine ⟨lt_of_some ho, by rw [getD_eq, setAll_get, if_neg (fun k => hx k.1), ← getD_eq]; exact h.1.1.2, o, rfl, fun e he hb => ?_⟩
        have h4 := Array.all_eq_true_iff_forall_mem.1 h3 e he
        simp only [hb, Bool.not_true, Bool.false_or, Bool.or_eq_true] at h4
        rw [getD_eq, setAll_get]
        split
        · rfl
        · rename_i hn
          rcases h4 with h4 | h4
          · rw [getD_eq] at h4; exact h4
          · have := hpre e.on (by simpa using h4)
            exact absurd this hn
theorem parOk_ready {ops : Array Oper} {listed : Array Bool} {is ds : List Nat} {t : Nat} (h : parOk ops listed is = true) (hds : ∀ d ∈ ds, d ∈ is) (ht : t ∈ is) (htd : t ∉ ds) :
    Region.ready .any ops (setAll listed ds) ≠ [] ∧ ∀ j ∈ Region.ready .any ops (setAll listed ds), j ∈ is ∧ j ∉ ds := by
  unfold parOk at h
  rw [Bool.and_eq_true, List.all_eq_true] at h
  obtain ⟨h1, h2⟩ := h
  have hin := topOk_mem h1
  have hun : ∀ j, j ∉ ds → (setAll listed ds)[j]? = listed[j]? := fun j hj => by rw [setAll_get, if_neg (fun k => hj k.1)]
  refine ⟨?_, ?_⟩
  · intro he
    obtain ⟨u, hu⟩ := topOk_ready (ds := ds) h1 (by simp) ⟨t, ht, htd⟩
    rw [he] at hu
    simp at hu
  · intro j hj
    obtain ⟨r1, r2, o, r3, r4⟩ := mem_ready.1 hj
    have hjd : j ∉ ds := by
      intro hm
      obtain ⟨hs, _⟩ := hin j (hds j hm)
      rw [getD_eq, setAll_get, if_pos ⟨hm, hs⟩] at r2
      simp at r2
    refine ⟨?_, hjd⟩
    have h3 := h2 j (List.mem_range.2 r1)
    rw [getD_eq, hun j hjd, ← getD_eq] at r2
    simp only [r2, r3, Bool.false_or, Bool.or_eq_true] at h3
    rcases h3 with h3 | h3 | h3
    · simpa using h3
    · exfalso
      have := List.all_eq_true.1 h3 t ht
      obtain ⟨e, he, hb⟩ := Array.any_eq_true'.1 this
      simp only [Bool.and_eq_true, beq_iff_eq] at hb
      have := r4 e he hb.1
      rw [hb.2, getD_eq, hun t htd] at this
      obtain ⟨_, q⟩ := hin t ht
      rw [getD_eq] at q
      cases hl : listed[t]? with
      | none => rw [hl] at this; simp at this
      | some b => rw [hl] at this q; simp at this q; rw [this] at q; simp at q
    · exfalso
      obtain ⟨e, he, hb⟩ := Array.any_eq_true'.1 h3
      simp only [Bool.and_eq_true, Bool.not_eq_true'] at hb
      have h5 := r4 e he hb.1.1
      have hnd : e.on ∉ ds := fun hm => by
        have := hds _ hm
        have h6 := hb.2
        simp [this] at h6
      rw [getD_eq, hun _ hnd, ← getD_eq, hb.1.2] at h5
      simp at h5

section
variable {R : Type} {P : Program} {n : Nat} {A : Nat → Prop} {w0 w1 : World} {Q : R → Exit → Act → World → Prop} {ρ ρ' : Env} {Γ Γ' Γp Γ1 : Ctx} {E : Option R} {O : List Nat} {ops : Array Oper} {fuel : Nat} {listed : Array Bool}
variable {ty : TypeId} {pos : String} {after : Array Edge} {g : Option (Nat × Bool)}

/-- What a done operation left. -/
abbrev PDone := (p : POp) × p.G
def PDone.holds (n : Nat) (a : Act) (q : PDone) : Prop := a.tmps.getD q.1.d undef = q.1.v q.2 ∧ q.1.d < n
def PDone.fs (q : PDone) : Ctx := q.1.fs q.2
theorem Sat.more {a : Act} {d : Nat} {v : Value} (h : Sat n ρ a) (hv : a.tmps.getD d undef = v) (hd : d < n) : Sat n ((d, v) :: ρ) a := by
  refine ⟨h.size, h.defers, fun t u ht => ?_⟩
  simp only [Env.get] at ht
  by_cases e : d = t
  · subst e
    simp at ht
    subst ht
    exact ⟨hv, hd⟩
  · rw [beq_false_of e] at ht
    exact h.get t u (by simpa using ht)
theorem PAll.use {K : Env → Ctx → Prop} : ∀ (S : List POp) (ρ : Env) (Γ : Ctx) (D : List PDone), (D.map (·.1)).Perm S → PAll S K ρ Γ →
    ∃ ρ' Γ', K ρ' Γ' ∧ (∀ a, Sat n ρ a → (∀ q ∈ D, q.holds n a) → Sat n ρ' a) ∧ (Γ ++ D.flatMap PDone.fs).Perm Γ'
  | [], ρ, Γ, D, hp, h => by
    have : D = [] := by simpa using hp.length_eq
    subst this
    exact ⟨ρ, Γ, h, fun a ha _ => ha, by simp⟩
  | p :: S, ρ, Γ, D, hp, h => by
    have hm : p ∈ D.map (·.1) := hp.mem_iff.2 List.mem_cons_self
    obtain ⟨q, hq, rfl⟩ := List.mem_map.1 hm
    obtain ⟨D1, D2, rfl⟩ := List.append_of_mem hq
    have hpd : (D1 ++ q :: D2).Perm (q :: (D1 ++ D2)) := List.perm_middle
    have hp2 : ((D1 ++ D2).map (·.1)).Perm S := by
      have := (hpd.map (·.1)).symm.trans hp
      exact List.Perm.cons_inv this
    obtain ⟨ρ', Γ', k1, k2, k3⟩ := PAll.use S ((q.1.d, q.1.v q.2) :: ρ) (q.1.fs q.2 ++ Γ) (D1 ++ D2) hp2 (h q.2)
    refine ⟨ρ', Γ', k1, fun a ha hs => k2 a (ha.more (hs q hq).1 (hs q hq).2) (fun q' hq' => hs q' (hpd.mem_iff.2 (List.mem_cons_of_mem _ hq'))), ?_⟩
    refine List.Perm.trans ?_ k3
    have : ((D1 ++ q :: D2).flatMap PDone.fs).Perm (q.fs ++ (D1 ++ D2).flatMap PDone.fs) := by
      have := hpd.flatMap_right PDone.fs
      simpa using this
    refine (this.append_left Γ).trans ?_
    show (Γ ++ (q.1.fs q.2 ++ (D1 ++ D2).flatMap PDone.fs)).Perm ((q.1.fs q.2 ++ Γ) ++ (D1 ++ D2).flatMap PDone.fs)
    rw [← List.append_assoc]
    exact List.perm_append_comm.append_right _

theorem JD_par0 (S : List POp) (hok : parOk ops listed (S.map (·.i)) = true) (hfr : (S.all fun p => (ρ.get p.d).isNone && Nat.blt p.d n) = true) (hnd : ndup (S.map (·.d)) = true) (hni : ndup (S.map (·.i)) = true)
    (hst : PSteps P n A w0 ops ρ Γ S) (h : PAll S (fun ρ' Γ' => JD P n A w0 w1 Γ1 ops O fuel (setAll listed (S.map (·.i))) Q ρ' Γ' E) ρ Γ) : JD P n A w0 w1 Γ1 ops O (fuel + S.length) listed Q ρ Γ E := by
  have hnodup : ∀ l : List Nat, ndup l = true → l.Nodup := by
    intro l
    induction l with
    | nil => simp
    | cons x l ih =>
      intro hl
      simp only [ndup, Bool.and_eq_true, Bool.not_eq_true', List.any_eq_false] at hl
      exact List.nodup_cons.2 ⟨fun hm => hl.1 x hm (Nat.beq_refl x), ih hl.2⟩
  intro r hr
  have key : ∀ (k : Nat) (T : List POp) (D : List PDone) (a : Act) (w : World), T.length = k → (D.map (·.1) ++ T).Perm S → Sat n ρ a → (∀ q ∈ D, q.holds n a) → SH A w0 w (Γ ++ D.flatMap PDone.fs) → Grow w1 w O →
      OwnNew Γ1 (Γ ++ D.flatMap PDone.fs) w1 → wpAnyH P .any ops (noP (Q r)) (fun w' => Grow w1 w' O) (fuel + k) (setAll listed ((D.map (·.1)).map (·.i))) a w := by
    intro k
    induction k with
    | zero =>
      intro T D a w hT hp hs hq hh hg hon
      have : T = [] := List.eq_nil_of_length_eq_zero hT
      subst this
      rw [List.append_nil] at hp
      obtain ⟨ρ', Γ', k1, k2, k3⟩ := PAll.use (n := n) S ρ Γ D hp h
      have e := setAll_perm (hp.map (·.i)) listed
      rw [e]
      refine k1 r hr a w (k2 a hs hq) (hh.perm k3) hg (fun b hb => hon b ?_)
      have ho : Ctx.owns (Γ ++ D.flatMap PDone.fs) |>.Perm Γ'.owns := k3.flatMap_right _
      exact ho.mem_iff.2 hb
    | succ k ih =>
      intro T D a w hT hp hs hq hh hg hon
      have hpi := hp.map (·.i)
      have hpd := hp.map (·.d)
      rw [List.map_append] at hpi hpd
      have hndi := hpi.nodup_iff.2 (hnodup _ hni)
      have hndd := hpd.nodup_iff.2 (hnodup _ hnd)
      obtain ⟨t, ht⟩ : ∃ t, t ∈ T := by
        cases T with
        | nil => simp at hT
        | cons t T => exact ⟨t, List.mem_cons_self⟩
      rw [List.nodup_append] at hndi hndd
      obtain ⟨r1, r2⟩ := parOk_ready (ds := (D.map (·.1)).map (·.i)) (t := t.i) hok (fun d hd => hpi.mem_iff.1 (List.mem_append_left _ hd)) (hpi.mem_iff.1 (List.mem_append_right _ (List.mem_map.2 ⟨t, ht, rfl⟩)))
        (fun hm => hndi.2.2 _ hm _ (List.mem_map.2 ⟨t, ht, rfl⟩) rfl)
      rw [show fuel + (k + 1) = (fuel + k) + 1 from rfl]
      refine wpAnyH_all rfl r1 fun j hj => ?_
      obtain ⟨j1, j2⟩ := r2 j hj
      have j3 := hpi.mem_iff.2 j1
      rcases List.mem_append.1 j3 with j3 | j3
      · exact absurd j3 j2
      obtain ⟨p, hpT, rfl⟩ := List.mem_map.1 j3
      have hpS : p ∈ S := hp.mem_iff.1 (List.mem_append_right _ hpT)
      obtain ⟨T1, T2, rfl⟩ := List.append_of_mem hpT
      have hfp := List.all_eq_true.1 hfr p hpS
      simp only [Bool.and_eq_true, Option.isNone_iff_eq_none, Nat.blt_eq] at hfp
      refine hst.get p hpS (D.flatMap PDone.fs) _ a w _ hs hh fun x w' hh' hg' hon' => ?_
      have hg2 : Grow w1 w' O := hg.more hg' (by simp)
      refine ⟨hg2, ?_⟩
      have hset : (setAll listed ((D.map (·.1)).map (·.i))).setIfInBounds p.i true = setAll listed (((D ++ [(⟨p, x⟩ : PDone)]).map (·.1)).map (·.i)) := by
        rw [List.map_append, List.map_append]
        exact (setAll_snoc _ _ _).symm
      rw [hset]
      have hctx : (p.fs x ++ (Γ ++ D.flatMap PDone.fs)).Perm (Γ ++ (D ++ [(⟨p, x⟩ : PDone)]).flatMap PDone.fs) := by
        have e : (D ++ [(⟨p, x⟩ : PDone)]).flatMap PDone.fs = D.flatMap PDone.fs ++ p.fs x := by simp [PDone.fs]
        refine List.perm_append_comm.trans ?_
        rw [e, List.append_assoc]
      refine ih (T1 ++ T2) (D ++ [⟨p, x⟩]) _ _ ?_ ?_ ?_ ?_ (hh'.perm hctx) hg2 ?_
      · simp at hT ⊢; omega
      · refine List.Perm.trans ?_ hp
        rw [List.map_append, List.append_assoc]
        exact (List.perm_middle (l₁ := T1) (l₂ := T2) (a := p)).symm.append_left _
      · refine ⟨by simp [Act.put, hs.size], hs.defers, fun t u htu => ?_⟩
        obtain ⟨g1, g2⟩ := hs.get t u htu
        have hne : p.d ≠ t := by
          rintro rfl
          rw [hfp.1] at htu
          cases htu
        refine ⟨?_, g2⟩
        simp [Act.put, Array.getD_eq_getD_getElem?, hne]
        simpa [Array.getD_eq_getD_getElem?] using g1
      · intro q hqm
        rcases List.mem_append.1 hqm with hqm | hqm
        · obtain ⟨g1, g2⟩ := hq q hqm
          have hne : p.d ≠ q.1.d := by
            intro e
            exact hndd.2.2 q.1.d (List.mem_map.2 ⟨q.1, List.mem_map.2 ⟨q, hqm, rfl⟩, rfl⟩) p.d (List.mem_map.2 ⟨p, hpT, rfl⟩) e.symm
          refine ⟨?_, g2⟩
          simp [Act.put, Array.getD_eq_getD_getElem?, hne]
          simpa [Array.getD_eq_getD_getElem?] using g1
        · rw [List.mem_singleton] at hqm
          subst hqm
          exact ⟨by simp [Act.put, hs.size, hfp.2], hfp.2⟩
      · have ho : (Ctx.owns (p.fs x ++ (Γ ++ D.flatMap PDone.fs))).Perm (Ctx.owns (Γ ++ (D ++ [(⟨p, x⟩ : PDone)]).flatMap PDone.fs)) := hctx.flatMap_right _
        have hon2 := OwnNew.trans hon hg hon'
        exact fun b hb => hon2 b (ho.mem_iff.2 hb)
  intro a w hs hh hg hon
  have := key S.length S [] a w rfl (by simp) hs (by simp) (by simpa using hh) hg (by simpa using hon)
  simpa [setAll] using this

theorem JD_par (S : List POp) (is : List Nat) (k : Nat) (his : S.map (·.i) = is) (hk : S.length = k) (hok : parOk ops listed is = true) (hfr : (S.all fun p => (ρ.get p.d).isNone && Nat.blt p.d n) = true) (hnd : ndup (S.map (·.d)) = true) (hni : ndup is = true)
    (hst : PSteps P n A w0 ops ρ Γ S) (h : PAll S (fun ρ' Γ' => JD P n A w0 w1 Γ1 ops O fuel (setAll listed is) Q ρ' Γ' E) ρ Γ) : JD P n A w0 w1 Γ1 ops O (fuel + k) listed Q ρ Γ E := by
  subst his hk
  exact JD_par0 S hok hfr hnd hni hst h

theorem PStep.st {i d : Nat} {op : Op} {G : Type} {v : G → Value} {fs : G → Ctx} (hi : ops[i]? = some ⟨some d, op, ty, pos, after, g⟩) (hw : Wants n ρ ops ⟨some d, op, ty, pos, after, g⟩)
    (hx : ∀ Δ, St P n A w0 ρ (Γ ++ Δ) ⟨some d, op, ty, pos, after, g⟩ v (fun x => fs x ++ (Γ ++ Δ)) []) : PStep P n A w0 ops ρ Γ ⟨i, d, G, v, fs⟩ := by
  intro Δ Q a w K hs hh hK
  obtain ⟨x, w', hrun, hh', hgr, hno⟩ := hx Δ a w hs hh
  unfold wpOp
  simp only [hi, hw a hs, if_true]
  refine .inl ?_
  unfold Oper.wp
  rw [hrun, Oper.upon_value]
  exact hK x w' hh' hgr hno
theorem PStep.call {i d : Nat} {f : FuncId} {args : List Operand} {ats : Array TypeId} {vs : List Value} {G : Type} {v : G → Value} {fs : G → Ctx} (hi : ops[i]? = some ⟨some d, .call ⟨.value (.func f), args.toArray, ats⟩, ty, pos, after, g⟩)
    (hw : Wants n ρ ops ⟨some d, .call ⟨.value (.func f), args.toArray, ats⟩, ty, pos, after, g⟩) (hf : ∀ args w, (callFunc f args).run P w = .ok (.enter f args) w) (hargs : evL ρ args = some vs)
    (hC : ∀ Δ, Ca P A w0 (Γ ++ Δ) f vs v (fun x => fs x ++ (Γ ++ Δ))) : PStep P n A w0 ops ρ Γ ⟨i, d, G, v, fs⟩ := by
  intro Δ Q a w K hs hh hK
  unfold wpOp
  simp only [hi, hw a hs, if_true]
  refine .inl ?_
  have hrun : (execOp a.eval ⟨some d, .call ⟨.value (.func f), args.toArray, ats⟩, ty, pos, after, g⟩).run P w = .ok (.enter f vs.toArray) w := by
    simp [execOp, resolve, Act.eval, Deferred.ofValue, invoke, hs.evalL hargs, hf]
  unfold Oper.wp
  rw [hrun, Oper.upon_enter]
  refine (hC Δ w hh).mono ?_
  rintro e w' ⟨x, rfl, hh', hgr, hno⟩
  exact hK x w' hh' hgr hno
end

section
variable {R S S' G G' : Type} {n : Nat} {A : Nat → Prop} {w0 : World} {Q : R → Exit → Act → World → Prop} {ρ : Env} {Γ : Ctx} {E : Option R}
/-- A return out of a loop of a body that is walked in place: what comes behind the call is handed on. -/
theorem N_round_reti {id : Nat} {ρs : S → G → Env} {Γs : S → G → Ctx} {ρe : S' → G' → Env} {Γe : S' → G' → Ctx} {fa : S' → Option R} (h : N n A w0 Q .ret ρ Γ E) :
    N n A w0 (QRound n A w0 id Q ρs Γs ρe Γe (Out.elim fa (fun (r : Option R) => r))) .ret ρ Γ (some (.inr (.ret E))) := N_round_ret h
theorem N_mid_reti {ρe : S' → G' → Env} {Γe : S' → G' → Ctx} {fa : S' → Option R} (h : N n A w0 Q .ret ρ Γ E) :
    N n A w0 (QMid n A w0 Q ρe Γe (Out.elim fa (fun (r : Option R) => r))) .ret ρ Γ (some (.ret E)) := N_mid_ret h
end
section
variable {R : Type} {P : Program} {n : Nat} {A : Nat → Prop} {w0 w : World} {Q : R → Exit → Act → World → Prop} {ρ ρ' : Env} {Γ Γ' : Ctx} {E : Option R}
variable {ty : TypeId} {pos : String} {after : Array Edge} {g : Option (Nat × Bool)}
/-- A function value that is known, walked in place. -/
theorem JL_inlinev {ops : Array Oper} {rest : List Oper} {d : Nat} {o : Operand} {f : FuncId} {fn : Func} {body : Code} {n' : Nat} {args : List Operand} {ats : Array TypeId} {vs caps : List Value}
    (hw : Wants n ρ ops ⟨some d, .call ⟨.value o, args.toArray, ats⟩, ty, pos, after, g⟩) (hd : Nat.blt d n = true)
    (hf : ∀ args w, (callFunc f args).run P w = .ok (.enter f args) w) (ho : ev ρ o = some (.func (.func f) #[] caps.toArray)) (hargs : evL ρ args = some vs) (hfn : P.funcs[f]? = some fn) (hb : fn.body = some body) (hn : fn.ntmps = n') (hl : Nat.ble (vs ++ caps).length n' = true) (hρ : enum 0 (vs ++ caps) = ρ')
    (h : ∀ K : R → Value → World → Prop, Behind P n A w0 ops rest Q d ρ K → J P n' A w0 body (QInl P fn K) ρ' Γ E) : JL P n A w0 ops (⟨some d, .call ⟨.value o, args.toArray, ats⟩, ty, pos, after, g⟩ :: rest) Q ρ Γ E := by
  intro r hr a w hs hh
  refine wpList_step fun K hK => ?_
  rw [hw a hs]
  simp only [if_true]
  unfold Oper.wp
  rw [run_callv hs hf ho hargs, Oper.upon_enter]
  refine (calls_of_wp hfn hb (R := fun e w' => ∃ u, e = .returned u ∧ wpList P ops (Q r) rest (a.put (some d) u) w') ?_).mono ?_
  · have hJ := h (fun r u w' => wpList P ops (Q r) rest (a.put (some d) u) w') (fun u Γ' E' hJL r hE w hw' => hJL r hE _ w (hs.put (by simpa [Nat.blt_eq] using hd)) hw')
    refine hJ r hr _ w ⟨?_, rfl, ?_⟩ hh
    · simp [Nat.ble_eq] at hl
      simp [hn]; omega
    · intro t u ht
      rw [← hρ] at ht
      obtain ⟨_, h2⟩ := enum_get (vs ++ caps) 0 t u ht
      have h2' : (vs ++ caps)[t]? = some u := by simpa using h2
      have hlt : t < (vs ++ caps).length := (List.getElem?_eq_some_iff.1 h2').1
      simp only [Nat.ble_eq] at hl
      refine ⟨?_, by omega⟩
      have hlt' : t < ((vs ++ caps).toArray).size := by simpa using hlt
      rw [Array.getD_eq_getD_getElem?, Array.getElem?_append_left hlt']
      simp only [List.getElem?_toArray, h2', Option.getD_some]
  · rintro e w' ⟨u, rfl, hu⟩
    exact hK _ _ hu
end
end Go.Tc
namespace Go.Tc
open Go Go.RowKit

/-! ### Maps as lists of entries -/
section
variable {κ ν : Type} [DecidableEq κ]
def mget : List (κ × ν) → κ → Option ν
  | [], _ => none
  | (a, v) :: r, k => if a = k then some v else mget r k
def mput : List (κ × ν) → κ → ν → List (κ × ν)
  | [], k, v => [(k, v)]
  | (a, u) :: r, k, v => if a = k then (a, v) :: r else (a, u) :: mput r k v
@[simp] theorem mget_nil (k : κ) : mget ([] : List (κ × ν)) k = none := rfl
theorem mget_mput (m : List (κ × ν)) (k k' : κ) (v : ν) : mget (mput m k v) k' = if k = k' then some v else mget m k' := by
  induction m with
  | nil => simp [mput, mget]
  | cons p r ih =>
    obtain ⟨a, u⟩ := p
    simp only [mput]
    by_cases h : a = k
    · subst h
      simp only [if_true, mget]
      split <;> simp_all
    · simp only [if_neg h, mget, ih]
      by_cases h2 : a = k'
      · subst h2
        have h3 : ¬ k = a := fun e => h e.symm
        simp [h3]
      · simp [h2]
theorem mput_length (m : List (κ × ν)) (k : κ) (v : ν) : (mput m k v).length = if (mget m k).isSome then m.length else m.length + 1 := by
  induction m with
  | nil => simp [mput, mget]
  | cons p r ih =>
    obtain ⟨a, u⟩ := p
    simp only [mput, mget]
    by_cases h : a = k
    · simp [h]
    · simp only [if_neg h, List.length_cons, ih]
      split <;> rfl
end

/-- What is asked of a key's type. -/
structure KeyOk (P : Program) (K : TypeId) {κ : Type} (enc : κ → Value) : Prop where
  chk : ∀ (w : World) (em : Bool) (x : κ), (Instr.checkKey em 10000 K (enc x)).run P w = .ok () w
  now : ∃ d, P.underlying K = some d ∧ ((∀ x y : κ, Instr.sameNow d (enc x) (enc y) = none) ∨ ∀ x y : κ, ∃ b, Instr.sameNow d (enc x) (enc y) = some b ∧ (b = true ↔ x = y))
  eq : ∀ (w : World) (x y : κ), ∃ b, (Op.equal K (enc x) (enc y)).run P w = .ok b w ∧ (b = true ↔ x = y)
  bits : ∀ x : κ, Instr.sameBits 10000 (enc x) (enc x) = true

theorem run_getMap {P : Program} {w : World} {r : Nat} {es : Array MapEntry} {clock : Nat} (hb : w.heap[r]? = some (.map es clock)) : (getObj r).run P w = .ok (.map es clock) w := by simp [getObj, Sem.run, hb]
theorem run_setMap {P : Program} {w : World} {r : Nat} {es : Array MapEntry} {clock : Nat} (hb : w.heap[r]? = some (.map es clock)) (o : Obj) : (setObj r o).run P w = .ok () { w with heap := w.heap.setIfInBounds r o } := by simp [setObj, Sem.run, hb]
/-- The stamps of a map's entries are apart, and older than its clock. -/
def Stamps (es : Array MapEntry) (clock : Nat) : Prop := (es.toList.map (·.born)).Nodup ∧ ∀ e ∈ es.toList, e.born < clock
def MapIs {κ ν : Type} (enc : κ → Value) (venc : ν → Value) (b : Nat) (m : List (κ × ν)) (w : World) : Prop :=
  ∃ es clock, w.heap[b]? = some (.map es clock) ∧ es.toList.map (fun e => (e.key, e.val)) = m.map (fun p => (enc p.1, venc p.2)) ∧ Stamps es clock
/-- A map of the call's own. -/
def mpf {κ ν : Type} (enc : κ → Value) (venc : ν → Value) (b : Nat) (m : List (κ × ν)) : Fact := .inv [b] (MapIs enc venc b m)

section
variable {P : Program} {K : TypeId} {κ ν : Type} [DecidableEq κ] {enc : κ → Value} {venc : ν → Value}

theorem findAsking_spec (hk : KeyOk P K enc) (w : World) (x : κ) : ∀ (es : List MapEntry) (m : List (κ × ν)) (i : Nat), es.map (fun e => (e.key, e.val)) = m.map (fun p => (enc p.1, venc p.2)) →
    (Instr.findAsking K (enc x) es i).run P w = .ok none w ∧ mget m x = none ∨
    ∃ j e v, (Instr.findAsking K (enc x) es i).run P w = .ok (some (i + j, e.val)) w ∧ es[j]? = some e ∧ mget m x = some v ∧ e.val = venc v ∧ e.key = enc x ∧ ∀ v', mput m x v' = m.set j (x, v')
  | [], m, i, h => by
    have : m = [] := by simpa using h.symm
    subst this
    left
    simp [Instr.findAsking, mget]
  | e :: es, [], i, h => by simp at h
  | e :: es, (a, u) :: m, i, h => by
    simp only [List.map_cons, List.cons.injEq, Prod.mk.injEq] at h
    obtain ⟨⟨h1, h2⟩, h3⟩ := h
    obtain ⟨b, hb, hbi⟩ := hk.eq w x a
    cases b with
    | true =>
      have e0 : x = a := hbi.1 rfl
      subst e0
      right
      refine ⟨0, e, u, ?_, rfl, by simp [mget], h2, h1, fun v' => by simp [mput]⟩
      simp [Instr.findAsking, h1, hb]
    | false =>
      have hne : ¬ a = x := fun e0 => by have := hbi.2 e0.symm; simp at this
      have hrun : (Instr.findAsking K (enc x) (e :: es) i).run P w = (Instr.findAsking K (enc x) es (i + 1)).run P w := by simp [Instr.findAsking, h1, hb]
      rcases findAsking_spec hk w x es m (i + 1) h3 with ⟨k1, k2⟩ | ⟨j, e', v, k1, k2, k3, k4, k5, k6⟩
      · left
        exact ⟨by rw [hrun, k1], by simp [mget, hne, k2]⟩
      · right
        refine ⟨j + 1, e', v, ?_, by simpa using k2, by simp [mget, hne, k3], k4, k5, fun v' => by simp [mput, hne, k6 v']⟩
        rw [hrun, k1, show i + 1 + j = i + (j + 1) by omega]
theorem findNow_spec' {d : TypeDesc} (hn : ∀ x y : κ, ∃ b, Instr.sameNow d (enc x) (enc y) = some b ∧ (b = true ↔ x = y)) (x : κ) : ∀ (es : List MapEntry) (m : List (κ × ν)) (i : Nat), es.map (fun e => (e.key, e.val)) = m.map (fun p => (enc p.1, venc p.2)) →
    Instr.findNow d (enc x) es i = some none ∧ mget m x = none ∨
    ∃ j e v, Instr.findNow d (enc x) es i = some (some (i + j, e.val)) ∧ es[j]? = some e ∧ mget m x = some v ∧ e.val = venc v ∧ e.key = enc x ∧ ∀ v', mput m x v' = m.set j (x, v')
  | [], m, i, h => by
    have : m = [] := by simpa using h.symm
    subst this
    left
    simp [Instr.findNow, mget]
  | e :: es, [], i, h => by simp at h
  | e :: es, (a, u) :: m, i, h => by
    simp only [List.map_cons, List.cons.injEq, Prod.mk.injEq] at h
    obtain ⟨⟨h1, h2⟩, h3⟩ := h
    obtain ⟨b, hb, hbi⟩ := hn x a
    cases b with
    | true =>
      have e0 : x = a := hbi.1 rfl
      subst e0
      right
      refine ⟨0, e, u, ?_, rfl, by simp [mget], h2, h1, fun v' => by simp [mput]⟩
      simp [Instr.findNow, h1, hb]
    | false =>
      have hne : ¬ a = x := fun e0 => by have := hbi.2 e0.symm; simp at this
      have hrun : Instr.findNow d (enc x) (e :: es) i = Instr.findNow d (enc x) es (i + 1) := by simp [Instr.findNow, h1, hb]
      rcases findNow_spec' hn x es m (i + 1) h3 with ⟨k1, k2⟩ | ⟨j, e', v, k1, k2, k3, k4, k5, k6⟩
      · left
        exact ⟨by rw [hrun, k1], by simp [mget, hne, k2]⟩
      · right
        refine ⟨j + 1, e', v, ?_, by simpa using k2, by simp [mget, hne, k3], k4, k5, fun v' => by simp [mput, hne, k6 v']⟩
        rw [hrun, k1, show i + 1 + j = i + (j + 1) by omega]
theorem findKey_spec (hk : KeyOk P K enc) (w : World) (x : κ) (es : List MapEntry) (m : List (κ × ν)) (h : es.map (fun e => (e.key, e.val)) = m.map (fun p => (enc p.1, venc p.2))) :
    (Instr.findKey K (enc x) es).run P w = .ok none w ∧ mget m x = none ∨
    ∃ j e v, (Instr.findKey K (enc x) es).run P w = .ok (some (j, e.val)) w ∧ es[j]? = some e ∧ mget m x = some v ∧ e.val = venc v ∧ e.key = enc x ∧ ∀ v', mput m x v' = m.set j (x, v') := by
  obtain ⟨d, hd, hn | hn⟩ := hk.now
  · cases es with
    | nil =>
      have : m = [] := by simpa using h.symm
      subst this
      left
      simp [Instr.findKey, Instr.findNow, run_underlying hd, mget]
    | cons e es =>
      cases m with
      | nil => simp at h
      | cons p m =>
        have h0 : e.key = enc p.1 := by simp at h; exact h.1.1
        have hf : Instr.findNow d (enc x) (e :: es) 0 = none := by simp [Instr.findNow, h0, hn]
        have hr : (Instr.findKey K (enc x) (e :: es)).run P w = (Instr.findAsking K (enc x) (e :: es) 0).run P w := by simp [Instr.findKey, run_underlying hd, hf]
        rcases findAsking_spec hk w x (e :: es) (p :: m) 0 h with ⟨k1, k2⟩ | ⟨j, e', v, k1, k2⟩
        · exact .inl ⟨by rw [hr, k1], k2⟩
        · exact .inr ⟨j, e', v, by rw [hr, k1, Nat.zero_add], k2⟩
  · rcases findNow_spec' (ν := ν) (venc := venc) hn x es m 0 h with ⟨k1, k2⟩ | ⟨j, e', v, k1, k2⟩
    · exact .inl ⟨by simp [Instr.findKey, run_underlying hd, k1], k2⟩
    · exact .inr ⟨j, e', v, by simp [Instr.findKey, run_underlying hd, k1], k2⟩
end

section
variable {R : Type} {P : Program} {n : Nat} {A : Nat → Prop} {w0 : World} {Q : R → Exit → Act → World → Prop} {ρ ρ' : Env} {Γ Γ' : Ctx} {E : Option R}
variable {d : Option Nat} {ty : TypeId} {pos : String} {after : Array Edge} {g : Option (Nat × Bool)}
variable {κ ν : Type} {enc : κ → Value} {venc : ν → Value}

theorem SH.map {w : World} {b : Nat} {m : List (κ × ν)} (h : SH A w0 w Γ) (i : Nat) (hi : Γ[i]? = some (mpf enc venc b m)) : MapIs enc venc b m w := h.get i hi w fun _ _ => rfl
theorem st_makeMap {t : TypeId} : St P n A w0 ρ Γ ⟨d, .makeMap t none, ty, pos, after, g⟩ (fun b : Nat => .map (some b)) (fun b => mpf enc venc b ([] : List (κ × ν)) :: Γ) [] := by
  intro a w hs hh
  refine ⟨w.heap.size, w.alloc (.map #[] 0), ?_, ?_, Grow.alloc w _ _, .cons (by simp [mpf, Fact.owns])⟩
  · simp [execOp, Instr.makeMap, run_newObj]
  · refine hh.cons (Grow.alloc w _ []) (by simp [mpf, Fact.owns]) (by simp [mpf, Fact.owns]) ?_
    intro w' hw'
    refine ⟨#[], 0, ?_, rfl, by simp [Stamps]⟩
    rw [hw' _ (by simp)]
    exact heap_alloc_new w _
theorem ex_len_map {x : Operand} {t k e : TypeId} {b : Nat} {m : List (κ × ν)} (i : Nat) (ht : P.underlying t = some (.map k e)) (hx : ev ρ x = some (.map (some b))) (hi : Γ[i]? = some (mpf enc venc b m)) : Ex P n A w0 ρ Γ ⟨d, .call ⟨.builtin .len, #[x], #[t]⟩, ty, pos, after, g⟩ (.int .i64 (m.length : Int)) := by
  intro a w hs hh
  obtain ⟨es, clock, hb, he, _⟩ := hh.map i hi
  have hl := congrArg List.length he
  simp at hl
  simp [execOp, resolve, invoke, builtin, hs.eval hx, Builtin.len_, run_underlying ht, goInt, run_getMap hb, hl]
variable [DecidableEq κ]
theorem ex_lookup {mo ko : Operand} {t k e : TypeId} {b : Nat} {m : List (κ × ν)} {x : κ} {z : ν} {mv kv : Value} (i : Nat) (hk : KeyOk P k enc) (ht : P.underlying t = some (.map k e)) (hz : zinf P e = some (venc z)) (hm : ev ρ mo = some mv) (hmv : mv = .map (some b)) (hx : ev ρ ko = some kv) (hkv : kv = enc x) (hi : Γ[i]? = some (mpf enc venc b m)) :
    Ex P n A w0 ρ Γ ⟨d, .lookup t mo ko false, ty, pos, after, g⟩ (venc ((mget m x).getD z)) := by
  intro a w hs hh
  subst hmv hkv
  obtain ⟨es, clock, hb, he, _⟩ := hh.map i hi
  rcases findKey_spec hk w x es.toList m he with ⟨k1, k2⟩ | ⟨j, e', v, k1, k2, k3, k4, k5, k6⟩
  · simp [execOp, hs.eval hm, hs.eval hx, Instr.lookup, run_underlying ht, run_getMap hb, hk.chk, k1, k2, run_zinf hz]
  · simp [execOp, hs.eval hm, hs.eval hx, Instr.lookup, run_underlying ht, run_getMap hb, hk.chk, k1, k3, k4]
theorem ex_lookup_ok {mo ko : Operand} {t k e : TypeId} {b : Nat} {m : List (κ × ν)} {x : κ} {z : ν} {mv kv : Value} (i : Nat) (hk : KeyOk P k enc) (ht : P.underlying t = some (.map k e)) (hz : zinf P e = some (venc z)) (hm : ev ρ mo = some mv) (hmv : mv = .map (some b)) (hx : ev ρ ko = some kv) (hkv : kv = enc x) (hi : Γ[i]? = some (mpf enc venc b m)) :
    Ex P n A w0 ρ Γ ⟨d, .lookup t mo ko true, ty, pos, after, g⟩ (.tuple #[venc ((mget m x).getD z), .bool (mget m x).isSome]) := by
  intro a w hs hh
  subst hmv hkv
  obtain ⟨es, clock, hb, he, _⟩ := hh.map i hi
  rcases findKey_spec hk w x es.toList m he with ⟨k1, k2⟩ | ⟨j, e', v, k1, k2, k3, k4, k5, k6⟩
  · simp [execOp, hs.eval hm, hs.eval hx, Instr.lookup, run_underlying ht, run_getMap hb, hk.chk, k1, k2, run_zinf hz]
  · simp [execOp, hs.eval hm, hs.eval hx, Instr.lookup, run_underlying ht, run_getMap hb, hk.chk, k1, k3, k4]
theorem sk_mapUpdate {mo ko vo : Operand} {t k e : TypeId} {b : Nat} {m : List (κ × ν)} {x : κ} {y : ν} {mv kv vv : Value} (i : Nat) (hk : KeyOk P k enc) (ht : P.underlying t = some (.map k e)) (hm : ev ρ mo = some mv) (hmv : mv = .map (some b)) (hx : ev ρ ko = some kv) (hkv : kv = enc x) (hy : ev ρ vo = some vv) (hvv : vv = venc y) (hi : Γ[i]? = some (mpf enc venc b m)) (hΓ : Γ.set i (mpf enc venc b (mput m x y)) = Γ') :
    Sk P n A w0 ρ Γ ⟨d, .mapUpdate t mo ko vo, ty, pos, after, g⟩ Γ' [b] := by
  intro a w hs hh
  subst hmv hkv hvv hΓ
  obtain ⟨es, clock, hb, he, hst⟩ := hh.map i hi
  have hlt : b < w.heap.size := lt_of_some hb
  have key : ∃ es' clock', (execOp a.eval ⟨d, .mapUpdate t mo ko vo, ty, pos, after, g⟩).run P w = .ok .skip { w with heap := w.heap.setIfInBounds b (.map es' clock') } ∧
      es'.toList.map (fun e => (e.key, e.val)) = (mput m x y).map (fun p => (enc p.1, venc p.2)) ∧ Stamps es' clock' := by
    rcases findKey_spec hk w x es.toList m he with ⟨k1, k2⟩ | ⟨j, e', v, k1, k2, k3, k4, k5, k6⟩
    · refine ⟨es.push { key := enc x, val := venc y, born := clock }, clock + 1, ?_, ?_, ?_⟩
      · simp [execOp, hs.eval hm, hs.eval hx, hs.eval hy, Instr.mapUpdate, run_underlying ht, run_getMap hb, hk.chk, k1, run_setMap hb]
      · have hp : ∀ (l : List (κ × ν)), mget l x = none → mput l x y = l ++ [(x, y)] := by
          intro l
          induction l with
          | nil => intro _; rfl
          | cons p r ih =>
            obtain ⟨a, u⟩ := p
            intro h
            simp only [mget] at h
            split at h
            · simp at h
            · rename_i hne
              simp [mput, hne, ih h]
        rw [hp m k2]
        simp [he]
      · refine ⟨?_, fun e hm => ?_⟩
        · simp only [Array.toList_push, List.map_append, List.map_cons, List.map_nil]
          rw [List.nodup_append]
          refine ⟨hst.1, by simp, fun a ha c hc e => ?_⟩
          rw [List.mem_singleton.1 hc] at e
          obtain ⟨e', he', rfl⟩ := List.mem_map.1 ha
          have := hst.2 e' he'
          omega
        · simp only [Array.toList_push, List.mem_append, List.mem_singleton] at hm
          rcases hm with hm | rfl
          · have := hst.2 e hm
            omega
          · simp only; omega
    · refine ⟨es.modify j fun e => { e with key := enc x, val := venc y }, clock, ?_, ?_, ?_⟩
      · have k2' : es[j]? = some e' := by simpa using k2
        simp [execOp, hs.eval hm, hs.eval hx, hs.eval hy, Instr.mapUpdate, run_underlying ht, run_getMap hb, hk.chk, k1, k2', k5, Instr.keyThatStays, hk.bits, run_setMap hb]
      · rw [k6]
        simp only [Array.toList_modify]
        apply List.ext_getElem?
        intro i
        have hh := congrArg (fun l => l[i]?) he
        simp only [List.getElem?_map] at hh
        simp only [List.getElem?_map, List.getElem?_modify, List.getElem?_set]
        by_cases hij : j = i
        · subst hij
          rw [k2] at hh ⊢
          have hl : j < m.length := by
            have := congrArg List.length he
            simp at this
            have := (List.getElem?_eq_some_iff.1 k2).1
            simp at this
            omega
          simp [hl]
        · simp [hij]
          simpa using hh
      · have hb' : (es.modify j fun e => { e with key := enc x, val := venc y }).toList.map (·.born) = es.toList.map (·.born) := by
          simp only [Array.toList_modify]
          apply List.ext_getElem?
          intro i
          simp only [List.getElem?_map, List.getElem?_modify]
          by_cases hij : j = i
          · simp [hij]
            cases es[i]? <;> rfl
          · simp [hij]
        refine ⟨by rw [hb']; exact hst.1, fun e hm => ?_⟩
        have : e.born ∈ es.toList.map (·.born) := by rw [← hb']; exact List.mem_map_of_mem hm
        obtain ⟨e2, h2, h3⟩ := List.mem_map.1 this
        rw [← h3]
        exact hst.2 e2 h2
  obtain ⟨es', clock', hrun, hes, hst'⟩ := key
  have hgr : Grow w { w with heap := w.heap.setIfInBounds b (.map es' clock') } [b] := by
    refine ⟨rfl, rfl, rfl, by simp, fun k _ hk => ?_⟩
    have : b ≠ k := fun e => hk (by simp [e])
    simp [Array.getElem?_setIfInBounds, this]
  refine ⟨_, hrun, ?_, hgr, .set hi (fun c hc => .inl hc)⟩
  refine hh.set hi hgr (by simp [mpf, Fact.owns]) (fun c hc => ?_) ?_
  · simp [mpf, Fact.owns] at hc
    subst hc
    exact ⟨.inl (by simp [mpf, Fact.owns]), by simpa using hlt⟩
  · intro w' hw'
    refine ⟨es', clock', ?_, hes, hst'⟩
    rw [hw' b (by simp)]
    simp [hlt]
theorem ex_shl {x y : Operand} {t u : TypeId} {m l : Int} {k' : IntKind} (hx : ev ρ x = some (.int .i64 m)) (hy : ev ρ y = some (.int k' l)) (hl : 0 ≤ l) : Ex P n A w0 ρ Γ ⟨d, .binOp .shl t x y u, ty, pos, after, g⟩ (.int .i64 (w64 (m * 2 ^ min l.toNat 64))) := by
  intro a w hs hh
  have : ¬ l < 0 := by omega
  simp [execOp, hs.eval hx, hs.eval hy, eqGuard, binOp, Op.shift, w64, this, IntKind.bits]
theorem ex_shr {x y : Operand} {t u : TypeId} {m l : Int} {k' : IntKind} (hx : ev ρ x = some (.int .i64 m)) (hy : ev ρ y = some (.int k' l)) (hl : 0 ≤ l) : Ex P n A w0 ρ Γ ⟨d, .binOp .shr t x y u, ty, pos, after, g⟩ (.int .i64 (m.fdiv (2 ^ min l.toNat 64))) := by
  intro a w hs hh
  have : ¬ l < 0 := by omega
  simp [execOp, hs.eval hx, hs.eval hy, eqGuard, binOp, Op.shift, this, IntKind.bits]
end
def iand (x y : Int) : Int := w64 (((x % 18446744073709551616).toNat &&& (y % 18446744073709551616).toNat : Nat) : Int)
def ior (x y : Int) : Int := w64 (((x % 18446744073709551616).toNat ||| (y % 18446744073709551616).toNat : Nat) : Int)
theorem bits_and (x y : Int) : (BitVec.ofInt 64 x &&& BitVec.ofInt 64 y).toNat = ((x % 18446744073709551616).toNat &&& (y % 18446744073709551616).toNat) := by
  rw [BitVec.toNat_and, BitVec.toNat_ofInt, BitVec.toNat_ofInt]; rfl
theorem bits_or (x y : Int) : (BitVec.ofInt 64 x ||| BitVec.ofInt 64 y).toNat = ((x % 18446744073709551616).toNat ||| (y % 18446744073709551616).toNat) := by
  rw [BitVec.toNat_or, BitVec.toNat_ofInt, BitVec.toNat_ofInt]; rfl
def nneg (b : Int) : Option Unit := if 0 ≤ b then some () else none
theorem nneg_le {b : Int} {u : Unit} (h : nneg b = some u) : 0 ≤ b := by
  unfold nneg at h
  split at h
  · assumption
  · simp at h
section
variable {R : Type} {P : Program} {n : Nat} {A : Nat → Prop} {w0 : World} {Q : R → Exit → Act → World → Prop} {ρ ρ' : Env} {Γ Γ' : Ctx} {E : Option R}
variable {d : Option Nat} {ty : TypeId} {pos : String} {after : Array Edge} {g : Option (Nat × Bool)}
theorem ex_and {x y : Operand} {t u : TypeId} {m l : Int} (hx : ev ρ x = some (.int .i64 m)) (hy : ev ρ y = some (.int .i64 l)) : Ex P n A w0 ρ Γ ⟨d, .binOp .and t x y u, ty, pos, after, g⟩ (.int .i64 (iand m l)) := by
  intro a w hs hh
  simp [execOp, hs.eval hx, hs.eval hy, eqGuard, binOp, Op.intBits, iand, w64, IntKind.bits]
  exact congrArg (fun z : Nat => IntKind.i64.wrap (z : Int)) (bits_and m l)
theorem ex_or {x y : Operand} {t u : TypeId} {m l : Int} (hx : ev ρ x = some (.int .i64 m)) (hy : ev ρ y = some (.int .i64 l)) : Ex P n A w0 ρ Γ ⟨d, .binOp .or t x y u, ty, pos, after, g⟩ (.int .i64 (ior m l)) := by
  intro a w hs hh
  simp [execOp, hs.eval hx, hs.eval hy, eqGuard, binOp, Op.intBits, ior, w64, IntKind.bits]
  exact congrArg (fun z : Nat => IntKind.i64.wrap (z : Int)) (bits_or m l)
end

/-! ### A call walked in place, among orders -/
/-- It owns nothing, or tells all of what it owns. -/
def Fact.exact : Fact → Bool
  | .bx _ _ _ => true
  | @Fact.rd _ _ _ _ => true
  | @Fact.pt _ _ _ _ => true
  | @Fact.pa _ _ _ _ => true
  | @Fact.tkn _ _ _ _ _ => true
  | .pr _ => true
  | .fz _ _ => true
  | _ => false
theorem Fact.exact_same {A A' : Nat → Prop} {B B' : Nat} {w w' : World} {f : Fact} (he : f.exact = true) (h : f.holds A B w) (h' : f.holds A' B' w') : ∀ b ∈ f.owns, w'.heap[b]? = w.heap[b]? := by
  intro b hb
  cases f with
  | bx c t cs =>
    simp [Fact.owns] at hb
    subst hb
    have e1 : w.heap[b]? = some (.cells cs.toArray t (0, 0)) := h
    have e2 : w'.heap[b]? = some (.cells cs.toArray t (0, 0)) := h'
    rw [e1, e2]
  | _ => simp_all [Fact.owns, Fact.exact]
def Fact.light : Fact → Bool
  | .bx _ _ _ => false
  | f => f.exact
theorem Fact.light_owns {f : Fact} (h : f.light = true) : f.owns = [] := by
  cases f <;> first | rfl | simp [Fact.light, Fact.exact] at h
/-- What is not known to be owned. -/
def Cw (w0 w1 : World) (Γ1 : Ctx) : Nat → Prop := fun k => w0.heap.size ≤ k ∧ k < w1.heap.size ∧ k ∉ Γ1.owns
section
variable {R : Type} {P : Program} {n : Nat} {A : Nat → Prop} {w0 w1 : World} {Q : R → Exit → Act → World → Prop} {ρ ρ' : Env} {Γ Γ' Γ1 : Ctx} {E : Option R} {ops : Array Oper} {O : List Nat} {fuel : Nat} {listed : Array Bool}
variable {ty : TypeId} {pos : String} {after : Array Edge} {g : Option (Nat × Bool)}
def BehindD (P : Program) (n : Nat) (A : Nat → Prop) (w0 w1 : World) (Γ1 : Ctx) (ops : Array Oper) (O : List Nat) (fuel : Nat) (listed : Array Bool) (Q : R → Exit → Act → World → Prop) (i d : Nat) (ρ : Env) (is1 : List Nat) (C : Nat → Prop) (K : R → Value → World → Prop) : Prop :=
  ∀ u Γ' E' (p : Nat) (is2 : List Nat), Γ'[p]? = some (.fz w1 C) → sel is2 Γ' = sel is1 Γ1 → JD P n A w0 w1 Γ1 ops O fuel (listed.setIfInBounds i true) Q ((d, u) :: ρ) Γ' E' → ∀ r, E' = some r → ∀ w, SH A w0 w Γ' → K r u w
theorem inline_grow (h1 : SH A w0 w1 Γ1) (js is1 is2 : List Nat) (hcov : (List.range Γ1.length).all (fun i => (js ++ is1).any (Nat.beq i) || (Γ1[i]?).all Fact.light) = true) (hO : (sel js Γ1).owns = O) (hex : (sel is1 Γ1).all Fact.exact = true)
    {w' : World} {p : Nat} (hp : Γ'[p]? = some (.fz w1 (Cw w0 w1 Γ1))) (hsel : sel is2 Γ' = sel is1 Γ1) (h : SH A w0 w' Γ') : Grow w1 w' O ∧ OwnNew Γ1 Γ' w1 := by
  have hf := h.get p hp
  constructor
  · refine ⟨h.below.os.trans h1.below.os.symm, h.below.tape.trans h1.below.tape.symm, h.below.output.trans h1.below.output.symm, hf.1, fun k hk hkO => ?_⟩
    by_cases h0 : k < w0.heap.size
    · rw [h.below.block k h0, h1.below.block k h0]
    · by_cases hown : k ∈ Γ1.owns
      · obtain ⟨f, hfm, hkf⟩ := List.mem_flatMap.1 hown
        obtain ⟨i, hi⟩ := List.mem_iff_getElem?.1 hfm
        have hlt : i < Γ1.length := (List.getElem?_eq_some_iff.1 hi).1
        have hc := List.all_eq_true.1 hcov i (List.mem_range.2 hlt)
        rcases Bool.or_eq_true _ _ ▸ hc with hc | hc
        rotate_left
        · rw [hi] at hc
          rw [Fact.light_owns (by simpa using hc)] at hkf
          simp at hkf
        obtain ⟨j, hj, hij⟩ := List.any_eq_true.1 hc
        have hij' : i = j := Nat.eq_of_beq_eq_true hij
        subst hij'
        have selmem : ∀ (l : List Nat), i ∈ l → f ∈ sel l Γ1 := by
          intro l
          induction l with
          | nil => intro h; simp at h
          | cons a l ih =>
            intro h
            simp only [sel]
            rcases List.mem_cons.1 h with rfl | h
            · rw [hi]; simp
            · split
              · exact List.mem_cons_of_mem _ (ih h)
              · exact ih h
        rcases List.mem_append.1 hj with hj | hj
        · exact absurd (by rw [← hO]; exact List.mem_flatMap.2 ⟨f, selmem _ hj, hkf⟩) hkO
        · have hm := selmem _ hj
          have he := List.all_eq_true.1 hex f hm
          rw [← hsel] at hm
          obtain ⟨q, _, hq⟩ := sel_mem is2 Γ' f hm
          exact Fact.exact_same he (h1.all f hfm) (h.all f (List.mem_of_getElem? hq)) k hkf
      · exact (hf.2 k ⟨by omega, hk, hown⟩).2.2
  · intro b hb
    by_cases hb1 : b < w1.heap.size
    · left
      refine Classical.byContradiction fun hn => ?_
      exact (hf.2 b ⟨(h.ge b hb).1, hb1, hn⟩).1 (.inr hb)
    · right; omega
theorem JO_inline {i d : Nat} {f : FuncId} {fn : Func} {body : Code} {n' : Nat} {args : List Operand} {ats : Array TypeId} {vs : List Value} (h1 : SH A w0 w1 Γ1) (js is1 : List Nat)
    (hcov : (List.range Γ1.length).all (fun i => (js ++ is1).any (Nat.beq i) || (Γ1[i]?).all Fact.light) = true) (hO : (sel js Γ1).owns = O) (hex : (sel is1 Γ1).all Fact.exact = true)
    (hi : ops[i]? = some ⟨some d, .call ⟨.value (.func f), args.toArray, ats⟩, ty, pos, after, g⟩) (hw : Wants n ρ ops ⟨some d, .call ⟨.value (.func f), args.toArray, ats⟩, ty, pos, after, g⟩) (hd : Nat.blt d n = true)
    (hf : ∀ args w, (callFunc f args).run P w = .ok (.enter f args) w) (hargs : evL ρ args = some vs) (hfn : P.funcs[f]? = some fn) (hb : fn.body = some body) (hn : fn.ntmps = n') (hl : Nat.ble vs.length n' = true) (hρ : enum 0 vs = ρ')
    (h : ∀ (C : Nat → Prop) (K : R → Value → World → Prop), BehindD P n A w0 w1 Γ1 ops O fuel listed Q i d ρ is1 C K → J P n' A w0 body (QInl P fn K) ρ' (.fz w1 C :: Γ) E) : JO P n A w0 w1 Γ1 ops O fuel listed Q i ρ Γ E := by
  intro r hr' a w hsa hh hg hon
  unfold wpOp
  simp only [hi, hw a hsa, if_true]
  refine .inl ?_
  have hrun : (execOp a.eval ⟨some d, .call ⟨.value (.func f), args.toArray, ats⟩, ty, pos, after, g⟩).run P w = .ok (.enter f vs.toArray) w := by
    simp [execOp, resolve, Act.eval, Deferred.ofValue, invoke, hsa.evalL hargs, hf]
  unfold Oper.wp
  rw [hrun, Oper.upon_enter]
  have hfz : SH A w0 w (.fz w1 (Cw w0 w1 Γ1) :: Γ) := by
    refine hh.cons (Grow.refl w []) (by simp [Fact.owns]) (by simp [Fact.owns]) ⟨hg.size, fun k hk => ⟨?_, Nat.lt_of_lt_of_le hk.2.1 hg.size, ?_⟩⟩
    · rintro (hk' | hk')
      · have := hh.av k hk'
        have := hk.1
        omega
      · simp only [Ctx.owns, List.flatMap_cons, Fact.owns, List.nil_append] at hk'
        rcases hon k hk' with h' | h'
        · exact hk.2.2 h'
        · have := hk.2.1
          omega
    · refine hg.block k hk.2.1 fun hkO => hk.2.2 ?_
      rw [← hO] at hkO
      obtain ⟨f, hfm, hkf⟩ := List.mem_flatMap.1 hkO
      obtain ⟨q, _, hq⟩ := sel_mem js Γ1 f hfm
      exact List.mem_flatMap.2 ⟨f, List.mem_of_getElem? hq, hkf⟩
  refine (calls_of_wp hfn hb (R := fun e w' => ∃ u, e = .returned u ∧ (Grow w1 w' O ∧ wpAnyH P .any ops (noP (Q r)) (fun w' => Grow w1 w' O) fuel (listed.setIfInBounds i true) (a.put (some d) u) w')) ?_).mono ?_
  · have hJ := h (Cw w0 w1 Γ1) (fun r u w' => Grow w1 w' O ∧ wpAnyH P .any ops (noP (Q r)) (fun w' => Grow w1 w' O) fuel (listed.setIfInBounds i true) (a.put (some d) u) w') (fun u Γ' E' p is2 hp hsel hJD r hE w' hw' => by
      obtain ⟨hgr, hno⟩ := inline_grow h1 js is1 is2 hcov hO hex hp hsel hw'
      exact ⟨hgr, hJD r hE _ w' (hsa.put (by simpa [Nat.blt_eq] using hd)) hw' hgr hno⟩)
    refine hJ r hr' _ w ⟨?_, rfl, ?_⟩ hfz
    · simp [Nat.ble_eq] at hl
      simp [hn]; omega
    · intro t u ht
      rw [← hρ] at ht
      obtain ⟨_, h2⟩ := enum_get vs 0 t u ht
      simp at h2
      have hlt : t < vs.length := (List.getElem?_eq_some_iff.1 h2).1
      simp [Nat.ble_eq] at hl
      refine ⟨?_, by omega⟩
      simp [Array.getD_eq_getD_getElem?, Array.getElem?_append_left (show t < vs.toArray.size by simpa using hlt), h2]
  · rintro e w' ⟨u, rfl, hu⟩
    exact hu
theorem N_inlD0 {fn : Func} {n2 : Nat} {ρ2 : Env} {i d : Nat} {is1 : List Nat} {C : Nat → Prop} {K : R → Value → World → Prop} {e : Exit} (he : e = .ret ∨ e = .normal) (hK : BehindD P n A w0 w1 Γ1 ops O fuel listed Q i d ρ is1 C K) (hres : fn.results = #[]) (p : Nat) (is2 : List Nat) (hp : Γ[p]? = some (.fz w1 C)) (hsel : sel is2 Γ = sel is1 Γ1)
    (h : JD P n A w0 w1 Γ1 ops O fuel (listed.setIfInBounds i true) Q ((d, .tuple #[]) :: ρ) Γ E) : N n2 A w0 (QInl P fn K) e ρ2 Γ E := by
  intro r hr a w hs hh
  have key : a.defers = [] ∧ ∃ u, (results fn a.tmps).run P w = .ok u w ∧ (∃ u', Ending.returned u = .returned u' ∧ K r u' w) := by
    refine ⟨hs.defers, .tuple #[], ?_, _, rfl, hK _ _ _ p is2 hp hsel h r hr w hh⟩
    rw [results_rv, hres]
    simp
  rcases he with rfl | rfl <;> exact key
theorem N_inlD1 {fn : Func} {n2 : Nat} {ρ2 : Env} {i d : Nat} {is1 : List Nat} {C : Nat → Prop} {K : R → Value → World → Prop} {rv : ResultVar} {u : Value} (hK : BehindD P n A w0 w1 Γ1 ops O fuel listed Q i d ρ is1 C K) (hres : fn.results = #[rv]) (hu : Rv P n2 A w0 ρ2 Γ rv u) (p : Nat) (is2 : List Nat) (hp : Γ[p]? = some (.fz w1 C)) (hsel : sel is2 Γ = sel is1 Γ1)
    (h : JD P n A w0 w1 Γ1 ops O fuel (listed.setIfInBounds i true) Q ((d, u) :: ρ) Γ E) : N n2 A w0 (QInl P fn K) .ret ρ2 Γ E := by
  intro r hr a w hs hh
  refine ⟨hs.defers, u, ?_, _, rfl, hK _ _ _ p is2 hp hsel h r hr w hh⟩
  rw [results_rv, hres]
  simp [hu a w hs hh]
theorem N_inlD2 {fn : Func} {n2 : Nat} {ρ2 : Env} {i d : Nat} {is1 : List Nat} {C : Nat → Prop} {K : R → Value → World → Prop} {rv1 rv2 : ResultVar} {u1 u2 : Value} (hK : BehindD P n A w0 w1 Γ1 ops O fuel listed Q i d ρ is1 C K) (hres : fn.results = #[rv1, rv2]) (hu1 : Rv P n2 A w0 ρ2 Γ rv1 u1) (hu2 : Rv P n2 A w0 ρ2 Γ rv2 u2) (p : Nat) (is2 : List Nat) (hp : Γ[p]? = some (.fz w1 C)) (hsel : sel is2 Γ = sel is1 Γ1)
    (h : JD P n A w0 w1 Γ1 ops O fuel (listed.setIfInBounds i true) Q ((d, .tuple #[u1, u2]) :: ρ) Γ E) : N n2 A w0 (QInl P fn K) .ret ρ2 Γ E := by
  intro r hr a w hs hh
  refine ⟨hs.defers, .tuple #[u1, u2], ?_, _, rfl, hK _ _ _ p is2 hp hsel h r hr w hh⟩
  rw [results_rv, hres]
  simp [hu1 a w hs hh, hu2 a w hs hh]
end

/-! ### Literals of structs with structs inside -/
inductive BldN (P : Program) (t : TypeId) : List Value → List (Nat × Value × List Value) → List Value → Prop
  | nil {cs : List Value} : BldN P t cs [] cs
  | cons {cs cs' cs'' vs : List Value} {i off s : Nat} {v : Value} {r : List (Nat × Value × List Value)} (hf : finf P t i = some (off, s)) (hlen : vs.length = s) (hfit : Nat.ble (off + vs.length) cs.length = true) (hs : cs.take off ++ vs ++ cs.drop (off + vs.length) = cs'') (h : BldN P t cs'' r cs') : BldN P t cs ((i, v, vs) :: r) cs'
def AllCN : List (Nat × Value × List Value) → Prop
  | [] => True
  | (_, v, vs) :: r => CV v vs ∧ AllCN r
theorem BldN.fill {P : Program} {t : TypeId} {places : Array (Nat × Nat)} (hp : ∀ i off s, finf P t i = some (off, s) → places[i]? = some (off, s)) :
    ∀ {cs : List Value} {parts : List (Nat × Value × List Value)} {cs' : List Value}, BldN P t cs parts cs' → AllCN parts → Instr.fill (places[·]?) cs.toArray (parts.map fun p => (p.1, p.2.1)) = some cs'.toArray := by
  intro cs parts cs' h
  induction h with
  | nil => intro _; simp [Instr.fill]
  | cons hf hlen hfit hs h ih =>
    rename_i cs cs' cs'' vs i off s v r
    rintro ⟨hv, hc⟩
    simp only [Nat.ble_eq] at hfit
    simp only [List.map_cons, Instr.fill, hp _ _ _ hf, hv.1]
    rw [if_neg (by simp; omega)]
    rw [← ih hc, ← hs]
    congr 1
    have hk := foldl_set vs (cs.take off) (cs.drop off) off (by simp; omega) (by simp; omega)
    rw [List.take_append_drop] at hk
    rw [hk]
    simp [List.drop_drop]
section
variable {P : Program} {n : Nat} {A : Nat → Prop} {w0 : World} {ρ : Env} {Γ : Ctx}
variable {d : Option Nat} {ty : TypeId} {pos : String} {after : Array Edge} {g : Option (Nat × Bool)}
theorem ex_buildN {t : TypeId} {zc cs' : List Value} {parts : List (Nat × Operand)} (vs : List (Nat × Value × List Value)) (hS : SInf P t zc) (hparts : evP ρ parts = some (vs.map fun p => (p.1, p.2.1))) (hb : BldN P t zc vs cs') (hc : ∀ w, SH A w0 w Γ → AllCN vs) :
    Ex P n A w0 ρ Γ ⟨d, .build t parts.toArray, ty, pos, after, g⟩ (.agg cs'.toArray) := by
  intro a w hs hh
  obtain ⟨fields, z, hu, hz, hzc, hall⟩ := hS.ex
  have hp : parts.toArray.map (fun p => (p.1, a.eval p.2)) = (vs.map fun p => (p.1, p.2.1)).toArray := by
    apply Array.ext'
    simp [hs.evalP hparts]
  have hplaces : ∀ i off s, finf P t i = some (off, s) → ((fields.toList.map (placeOf P)).toArray)[i]? = some (off, s) := by
    intro i off s hf
    unfold finf at hf
    rw [hu] at hf
    simp only at hf
    split at hf
    · rename_i fl hfl
      split at hf
      · rename_i s' b' ht
        simp at hf
        obtain ⟨rfl, rfl⟩ := hf
        simp [hfl, ht, placeOf]
      · simp at hf
    · simp at hf
  have hfill := BldN.fill hplaces hb (hc w hh)
  have hm := run_places (P := P) w fields.toList (List.all_eq_true.1 hall)
  have hrun : (Instr.build t (vs.map fun p => (p.1, p.2.1)).toArray).run P w = .ok (.agg cs'.toArray) w := by
    simp only [Instr.build, Sem.run_bind, run_zinf hz, Result.andThen_ok, run_underlying hu, hzc, Array.mapM_eq_mapM_toList, map_eq_pure_bind, hm, Sem.run_pure]
    simp only [hfill, Sem.run_pure]
  simp only [execOp, Sem.run_bind]
  rw [hp, hrun]
  rfl
theorem cv_map {r : Option Nat} : CV (.map r) [.map r] := ⟨rfl, by simp [Value.oneCell']⟩
end
theorem sub_mp {κ ν : Type} {enc : κ → Value} {venc : ν → Value} {Γ : Ctx} {js : List Nat} {b : Nat} {m : List (κ × ν)} (q : Nat) (hm : (sel js Γ)[q]? = some (mpf enc venc b m)) : ∀ k ∈ [b], k ∈ (sel js Γ).owns := owns_sub q hm

/-! ### Functions that call themselves -/
def fixN {α R : Type} (step : (α → Option R) → α → Option R) : Nat → α → Option R
  | 0 => fun _ => none
  | k + 1 => step (fixN step k)
open Classical in
/-- What a function that calls itself computes. -/
noncomputable def fixR {α R : Type} (step : (α → Option R) → α → Option R) (a : α) : Option R :=
  if h : ∃ k r, fixN step k a = some r then fixN step h.choose a else none
theorem fixR_some {α R : Type} {step : (α → Option R) → α → Option R} {a : α} {r : R} (h : fixR step a = some r) : ∃ k, fixN step k a = some r := by
  unfold fixR at h
  split at h
  · exact ⟨_, h⟩
  · cases h
/-- More of the callee, more of the caller. -/
def Mono {α R : Type} (step : (α → Option R) → α → Option R) : Prop := ∀ f g : α → Option R, (∀ a r, f a = some r → g a = some r) → ∀ a r, step f a = some r → step g a = some r
theorem fixN_mono {α R : Type} {step : (α → Option R) → α → Option R} (hm : Mono step) : ∀ (k : Nat) (a : α) (r : R), fixN step k a = some r → fixN step (k + 1) a = some r
  | 0, _, _, h => by cases h
  | k + 1, a, r, h => hm _ _ (fixN_mono hm k) a r h
theorem fixN_le {α R : Type} {step : (α → Option R) → α → Option R} (hm : Mono step) {k m : Nat} (h : k ≤ m) {a : α} {r : R} (hr : fixN step k a = some r) : fixN step m a = some r := by
  induction h with
  | refl => exact hr
  | step _ ih => exact fixN_mono hm _ _ _ ih
theorem fixR_iff {α R : Type} {step : (α → Option R) → α → Option R} (hm : Mono step) {a : α} {r : R} : fixR step a = some r ↔ ∃ k, fixN step k a = some r := by
  refine ⟨fixR_some, ?_⟩
  rintro ⟨k, hk⟩
  unfold fixR
  have hex : ∃ k r, fixN step k a = some r := ⟨k, r, hk⟩
  rw [dif_pos hex]
  obtain ⟨r', hr'⟩ := hex.choose_spec
  rw [hr']
  have h1 := fixN_le hm (Nat.le_max_left k hex.choose) hk
  have h2 := fixN_le hm (Nat.le_max_right k hex.choose) hr'
  rw [h1] at h2
  exact h2.symm

/-! ### Keys that are structs of numbers -/
def ckFields (em : Bool) (n : Nat) (cs : Array Value) : List Field → Sem Unit
  | [] => pure ()
  | f :: fs =>
    if f.name ≠ "_" then do
      let a ← part f.type cs f.offset
      Instr.checkKey em n f.type a
      ckFields em n cs fs
    else ckFields em n cs fs
section
variable {P : Program} (w : World)
theorem run_checkKey_struct (em : Bool) (n : Nat) (t : TypeId) (cs : Array Value) (ht : P.underlying t = some (.struct (P.fieldsOf t))) :
    (Instr.checkKey em (n + 1) t (.agg cs)).run P w = (ckFields em n cs (P.fieldsOf t).toList).run P w := by
  simp only [Instr.checkKey, Sem.run_bind, run_underlying ht, Result.andThen_ok]
  rw [← Array.forIn_toList]
  generalize (P.fieldsOf t).toList = fs
  clear ht
  induction fs generalizing w with
  | nil => simp [ckFields]
  | cons f fs ih =>
    simp only [List.forIn_cons, ckFields, Sem.run_bind, Sem.run_ite]
    split
    · generalize (part f.type cs f.offset).run P w = r1
      cases r1 with
      | ok a w1 =>
        simp only [Result.andThen_ok]
        generalize (Instr.checkKey em n f.type a).run P w1 = r2
        cases r2 with
        | ok b w2 =>
          simp only [Result.andThen_ok, Sem.run_pure]
          exact ih w2
        | halt x w2 => simp [Result.andThen]
      | halt x w1 => simp [Result.andThen]
    · simp only [Sem.run_pure, Result.andThen_ok]
      exact ih w
theorem run_checkKey_int (em : Bool) (n : Nat) (t : TypeId) (k : IntKind) (v : Value) (h : P.underlying t = some (.int k)) : (Instr.checkKey em (n + 1) t v).run P w = .ok () w := by
  simp [Instr.checkKey, run_underlying h]
theorem run_checkKey_str (em : Bool) (n : Nat) (t : TypeId) (v : Value) (h : P.underlying t = some .string) : (Instr.checkKey em (n + 1) t v).run P w = .ok () w := by
  simp [Instr.checkKey, run_underlying h]
end
theorem keyok_int {P : Program} {K : TypeId} (h : P.underlying K = some (.int .i64)) : KeyOk P K (Value.int .i64) := by
  refine ⟨fun w em x => run_checkKey_int w em 9999 K .i64 _ h, ⟨_, h, .inr fun x y => ⟨x == y, rfl, by simp⟩⟩, fun w x y => ⟨x == y, run_equalIn_int w 9999 K .i64 .i64 x y h, by simp⟩, fun x => by simp [Instr.sameBits]⟩
theorem bytes_beq (x y : ByteArray) : (x.toList == y.toList) = true ↔ x = y := by
  rw [beq_iff_eq, ByteArray.toList_eq, ByteArray.toList_eq]
  constructor
  · intro h
    exact ByteArray.ext (Array.ext' h)
  · rintro rfl; rfl
theorem keyok_str {P : Program} {K : TypeId} (h : P.underlying K = some .string) : KeyOk P K Value.string := by
  refine ⟨fun w em x => run_checkKey_str w em 9999 K _ h, ⟨_, h, .inr fun x y => ⟨x == y, rfl, by rw [beq_toListBytes]; exact bytes_beq x y⟩⟩, fun w x y => ⟨_, run_equalIn_string w 9999 K x y h, bytes_beq x y⟩, fun x => by simp [Instr.sameBits, beq_toListBytes]⟩

/-- A struct inside a box as a pointer that is handed to a callee. -/
theorem SH.bx_paN {α : Type} [Rep α] {A A' : Nat → Prop} {w0 w : World} {Γ : Ctx} {b off : Nat} {t : TypeId} {cs cs1 : List Value} {x : α} (h : SH A w0 w Γ) (i : Nat) (hi : Γ[i]? = some (.bx b t cs)) (hcs : (cs.drop off).take cs1.length = cs1) (hx : Rd A' w (.agg cs1.toArray) x) (ha : Rep.agg α = true) : RdA A' w.heap.size w (.pointer (some ⟨b, off, none⟩)) x := by
  have hb : w.heap[b]? = some (.cells cs.toArray t (0, 0)) := h.get i hi
  obtain ⟨cs', e, hr⟩ := hx
  simp only [Rep.val, ha, if_true, Value.agg.injEq] at e
  have e2 := congrArg Array.toList e
  simp only at e2
  subst e2
  refine ⟨b, off, cs1, rfl, lt_of_some hb, fun j u hj => ?_, hr⟩
  refine cell_of_bx hb ?_
  rw [← hcs, List.getElem?_take] at hj
  split at hj
  · simpa using hj
  · simp at hj
end Go.Tc
namespace Go.Tc
open Go Go.RowKit

/-- An int of a kind that is not the word's. -/
structure Ik (k : IntKind) where
  val : Int
deriving DecidableEq
instance {k : IntKind} : Rep (Ik k) where
  sz := 1
  agg := false
  rdc _ _ cs x := cs = [.int k x.val]
  len h := by subst h; rfl
  one h := by subst h; simp [Value.oneCell']
  pos := by decide
  single _ := rfl
  frame h _ := h
  dc _ cs x B := cs = [.int k x.val] ∧ B = []
  dcf h _ := h
  dcr h _ := h.1
  dlt h b hb := by simp [h.2] at hb
  flat := true
  flt _ h := ⟨h, rfl⟩
theorem Rd.ik {k : IntKind} {A : Nat → Prop} {w : World} {v : Value} {x : Ik k} (h : Rd A w v x) : v = .int k x.val := by
  obtain ⟨cs, rfl, h⟩ := h
  simp only [Rep.rdc] at h
  subst h; rfl
theorem Rd.mk_ik {k : IntKind} (A : Nat → Prop) (w : World) (x : Int) : Rd A w (.int k x) (⟨x⟩ : Ik k) := ⟨_, rfl, rfl⟩
theorem zero_ik {k : IntKind} {A : Nat → Prop} {w : World} : ∃ zc : List Value, (Value.int k 0).cells = zc.toArray ∧ Rep.rdc A w zc (⟨0⟩ : Ik k) := ⟨_, rfl, rfl⟩
theorem dw_ik {k : IntKind} {w : World} {x : Int} {C : List Nat} : Dw w (.int k x) (⟨x⟩ : Ik k) C C := fun _ => ⟨[], ⟨_, rfl, rfl, rfl⟩, by simp, by simp, List.Sublist.refl _⟩
theorem opens_ik {k : IntKind} (y : Ik k) : Opens y (fun _ : Unit => .int k y.val) (fun _ => []) := fun _ _ _ _ h => ⟨(), h.ik, by simp⟩
def wk (k : IntKind) (n : Int) : Int := k.wrap n
def strOf (xs : List (Ik .u8)) : ByteArray := ⟨(xs.map fun x => UInt8.ofNat x.val.toNat).toArray⟩
theorem rdl_ik {k : IntKind} {A : Nat → Prop} {w : World} : ∀ (xs : List (Ik k)) (cs : List Value), RdL A w cs xs → cs = xs.map fun x => .int k x.val
  | [], _, h => h
  | x :: r, _, ⟨c1, c2, e, h1, h2⟩ => by
    have h1 : c1 = [.int k x.val] := h1
    rw [e, h1, rdl_ik r c2 h2]
    rfl
theorem strOf_push (s : ByteArray) (x : Ik .u8) (r : List (Ik .u8)) : (⟨(s.data.toList ++ ((x :: r).map fun x => UInt8.ofNat x.val.toNat)).toArray⟩ : ByteArray) = ⟨((s.push (UInt8.ofNat x.val.toNat)).data.toList ++ (r.map fun x => UInt8.ofNat x.val.toNat)).toArray⟩ := by
  simp [ByteArray.push]
theorem str_fold : ∀ (xs : List (Ik .u8)) (s : ByteArray), xs.foldl (fun b a => b.push (UInt8.ofNat a.val.toNat)) s = ⟨(s.data.toList ++ xs.map fun x => UInt8.ofNat x.val.toNat).toArray⟩
  | [], s => by simp
  | x :: r, s => by rw [strOf_push, List.foldl_cons, str_fold r]
theorem run_bytes {P : Program} {w : World} {v : Value} {xs : List (Ik .u8)} (h : RdS nowhere w v xs) : (Conv.bytesToString v).run P w = .ok (.string (strOf xs)) w := by
  rcases h with ⟨rfl, ad, cap', rfl, _, _⟩ | ⟨b, off, cap', cells, rfl, _, _, _, _, hrow, hr⟩
  · cases ad with
    | none => rfl
    | some a =>
      simp [Conv.bytesToString, loadCells, loadCellsFrom, strOf]
      rfl
  · have hc := run_loadCells_list (P := P) w ⟨b, off, none⟩ cells (fun j v hj => by rw [Addr.add_lit]; exact hrow j v hj)
    have hl := RdL.length _ _ hr
    have hcells := rdl_ik _ _ hr
    have : Rep.sz (Ik .u8) = 1 := rfl
    rw [this, Nat.mul_one] at hl
    rw [hl] at hc
    subst hcells
    simp [Conv.bytesToString, hc, str_fold, strOf]
def cat (a b : ByteArray) : Option ByteArray := if a.size + b.size ≤ 1099511627776 then some (a ++ b) else none

section
variable {R : Type} {P : Program} {n : Nat} {A : Nat → Prop} {w0 : World} {Q : R → Exit → Act → World → Prop} {ρ ρ' : Env} {Γ Γ' : Ctx} {E : Option R}
variable {d : Option Nat} {ty : TypeId} {pos : String} {after : Array Edge} {g : Option (Nat × Bool)}
theorem ex_str {x : Operand} {s t e : TypeId} {v : Value} {xs : List (Ik .u8)} (hs' : P.underlying s = some (.slice e)) (he : P.underlying e = some (.int .u8)) (ht : P.underlying t = some .string) (hx : ev ρ x = some v) (hr : ∀ w, SH A w0 w Γ → Rd nowhere w v xs) :
    Ex P n A w0 ρ Γ ⟨d, .convert s t x, ty, pos, after, g⟩ (.string (strOf xs)) := by
  intro a w hs hh
  have h := (hr w hh).sl
  have hb := run_bytes (P := P) h
  rcases h with ⟨_, ad, cap', rfl, _⟩ | ⟨b, off, cap', cells, rfl, _⟩ <;>
  simp [execOp, hs.eval hx, convert, run_underlying hs', run_underlying ht, run_underlying he, hb]
theorem ex_conv_ik {x : Operand} {s t : TypeId} {ds : TypeDesc} {k k' : IntKind} {m : Int} (hs' : P.underlying s = some ds) (ht : P.underlying t = some (.int k)) (hx : ev ρ x = some (.int k' m)) : Ex P n A w0 ρ Γ ⟨d, .convert s t x, ty, pos, after, g⟩ (.int k (wk k m)) := ex_conv_int hs' ht hx
theorem ex_lss_str {x y : Operand} {t u : TypeId} {m l : ByteArray} (hx : ev ρ x = some (.string m)) (hy : ev ρ y = some (.string l)) : Ex P n A w0 ρ Γ ⟨d, .binOp .lss t x y u, ty, pos, after, g⟩ (.bool (Op.bytesLess m.toList l.toList)) := by
  intro a w hs hh
  simp [execOp, hs.eval hx, hs.eval hy, eqGuard, binOp, Op.stringOp]
theorem ex_add_str {x y : Operand} {t u : TypeId} {m l r : ByteArray} (hx : ev ρ x = some (.string m)) (hy : ev ρ y = some (.string l)) (hr : cat m l = some r) : Ex P n A w0 ρ Γ ⟨d, .binOp .add t x y u, ty, pos, after, g⟩ (.string r) := by
  intro a w hs hh
  unfold cat at hr
  split at hr
  · rename_i h
    have hm : ¬ (((m.size + l.size : Nat) : Int) > IntKind.i64.max) := by
      have : IntKind.i64.max = 9223372036854775807 := rfl
      omega
    rw [← Option.some.inj hr]
    simp only [execOp, hs.eval hx, hs.eval hy, eqGuard, binOp, Op.stringOp, if_neg hm]
    simp
  · simp at hr
end
/-! ### copy inside a row -/
section
variable {R : Type} {P : Program} {n : Nat} {A : Nat → Prop} {w0 w : World} {Q : R → Exit → Act → World → Prop} {ρ ρ' : Env} {Γ Γ' : Ctx} {E : Option R}
variable {d : Option Nat} {ty : TypeId} {pos : String} {after : Array Edge} {g : Option (Nat × Bool)}
/-- xs, where ys is written over the part from l to h. -/
def cpyAt {α : Type} (xs : List α) (l h : Int) (ys : List α) : List α := xs.take l.toNat ++ cpy ((xs.take h.toNat).drop l.toNat) ys ++ xs.drop h.toNat
theorem cpyAt_eq {α : Type} {xs ys : List α} {l h : Int} (h0 : 0 ≤ l) (h1 : l ≤ h) (h2 : h ≤ xs.length) : cpyAt xs l h ys = xs.take l.toNat ++ ys.take (min ys.length (h.toNat - l.toNat)) ++ xs.drop (l.toNat + min ys.length (h.toNat - l.toNat)) := by
  have hl : ((xs.take h.toNat).drop l.toNat).length = h.toNat - l.toNat := by simp; omega
  unfold cpyAt cpy
  rw [hl, Nat.min_comm]
  generalize hm : min ys.length (h.toNat - l.toNat) = m
  have : ((xs.take h.toNat).drop l.toNat).drop m ++ xs.drop h.toNat = xs.drop (l.toNat + m) := by
    rw [List.drop_drop]
    conv => rhs; rw [← List.take_append_drop h.toNat xs]
    rw [List.drop_append_of_le_length (by simp; omega)]
  rw [List.append_assoc, List.append_assoc, this, List.append_assoc]
theorem ex_slice_ow {α : Type} [Rep α] {x : Operand} {t e e' : TypeId} {ag : Bool} {v : Value} {xs ys : List α} {lo hi : Option Operand} {l h : Int} (i : Nat) (ht : P.underlying t = some (.slice e)) (he : tinf P e = some (Rep.sz α, ag)) (hx : ev ρ x = some v) (hlo : bound ρ lo 0 = some l) (hhi : bound ρ hi xs.length = some h)
    (hi' : Γ[i]? = some (.ow e' v xs)) (hy : slc xs l h = some ys) : Ex P n A w0 ρ Γ ⟨d, .slice t x lo hi none, ty, pos, after, g⟩ (subv (Rep.sz α) l.toNat h.toNat v) := by
  intro a w hs hh
  obtain ⟨cells, ⟨_, hown⟩, _⟩ := hh.get i hi'
  obtain ⟨h0, h1, h2, _⟩ := slc_eq hy
  have hv : ∃ ad cap, v = .slice ad xs.length cap ∧ xs.length ≤ cap := by
    rcases hown with ⟨rfl, h0⟩ | ⟨gg, c, cur, rfl, _, _, hc, _⟩
    · exact ⟨none, 0, by rw [h0], by omega⟩
    · exact ⟨_, c, rfl, hc⟩
  obtain ⟨ad, cap, rfl, hc⟩ := hv
  have hb : ∀ {o : Option Operand} {dv j : Int}, bound ρ o dv = some j → o.map a.eval = none ∧ j = dv ∨ o.map a.eval = some (.int .i64 j) := by
    intro o dv j hj
    cases o with
    | none => simp [bound] at hj; exact .inl ⟨rfl, hj.symm⟩
    | some z =>
      simp only [bound] at hj
      split at hj
      · rename_i q hq
        right
        simp at hj
        simp [hs.eval hq, hj]
      · simp at hj
  have hrun := run_subv (P := P) (w := w) (ad := ad) ht he (hb hlo) (hb hhi) h0 h1 h2 hc
  simp only [execOp, hs.eval hx]
  cases lo <;> cases hi <;> simp at hrun ⊢ <;> simp [hrun]
theorem SH.src_own {α : Type} [Rep α] {e : TypeId} {v : Value} {xs ys : List α} {l h : Int} (hh : SH A w0 w Γ) (i : Nat) (hi : Γ[i]? = some (.ow e v xs)) (hy : slc xs l h = some ys) : Src (fun k => A k ∨ k ∈ Γ.owns) w (subv (Rep.sz α) l.toNat h.toNat v) ys := by
  obtain ⟨cells, ⟨hl0, hown⟩, hr⟩ := hh.get i hi
  obtain ⟨h0, h1, h2, rfl⟩ := slc_eq hy
  have hlen : ((xs.take h.toNat).drop l.toNat).length = h.toNat - l.toNat := by simp; omega
  have hrd := RdL.drop _ _ l.toNat (RdL.take xs cells h.toNat hr)
  rcases hown with ⟨rfl, hz⟩ | ⟨gg, c, cur, rfl, _, hg, hnc', hcm, hcs, htake⟩
  · have : xs = [] := List.eq_nil_of_length_eq_zero hz
    subst this
    have e1 : l.toNat = 0 := by simp at h2; omega
    have e2 : h.toNat = 0 := by simp at h2; omega
    rw [e1, e2]
    exact .inl ⟨rfl, rfl⟩
  · right
    by_cases hcl : c = l.toNat
    · refine ⟨⟨gg, 0, none⟩, c - l.toNat, (cells.take (h.toNat * Rep.sz α)).drop (l.toNat * Rep.sz α), by simp only [subv, hcl, if_true, hlen], ?_, hrd⟩
      have : (cells.take (h.toNat * Rep.sz α)).drop (l.toNat * Rep.sz α) = [] := by
        apply List.drop_eq_nil_of_le
        rw [List.length_take]
        have : h.toNat ≤ l.toNat := by omega
        have := Nat.mul_le_mul_right (Rep.sz α) this
        omega
      rw [this]
      simp
    · refine ⟨⟨gg, l.toNat * Rep.sz α, none⟩, c - l.toNat, (cells.take (h.toNat * Rep.sz α)).drop (l.toNat * Rep.sz α), ?_, ?_, hrd⟩
      · simp only [subv, if_neg hcl, hlen, Option.map_some]
        rw [Addr.add_lit, Nat.zero_add]
      · intro j u hj
        rw [Addr.add_lit]
        rw [List.getElem?_drop, List.getElem?_take] at hj
        split at hj
        · rw [← htake, List.getElem?_take] at hj
          split at hj
          · simpa [World.cell?, hg] using hj
          · simp at hj
        · simp at hj
theorem st_copy_at {α : Type} [Rep α] {x y : Operand} {t e : TypeId} {ag : Bool} {v u : Value} {xs xs1 ys : List α} {l h : Int} (i : Nat) (h1 : Rep.sz α = 1) (ht : P.underlying t = some (.slice e)) (he : tinf P e = some (1, ag)) (hx : ev ρ x = some (subv (Rep.sz α) l.toNat h.toNat v)) (hy : ev ρ y = some u) (hi : Γ[i]? = some (.ow e v xs)) (hz : slc xs l h = some xs1) (hs' : ∀ w, SH A w0 w Γ → Src (fun k => A k ∨ k ∈ Γ.owns) w u ys) :
    St P n A w0 ρ Γ ⟨d, .call ⟨.builtin .copy, #[x, y], #[t, t]⟩, ty, pos, after, g⟩ (fun _ : Unit => .int .i64 ((min xs1.length ys.length : Nat) : Int)) (fun _ => Γ.set i (.ow e v (cpyAt xs l h ys))) v.ownBlock.toList := by
  intro a w hs hh
  obtain ⟨cells, hown, hr⟩ := hh.get i hi
  obtain ⟨z0, z1, z2, rfl⟩ := slc_eq hz
  have hlen : ((xs.take h.toNat).drop l.toNat).length = h.toNat - l.toNat := by simp; omega
  have hsz : (P.info? e).map (·.size) = some 1 := by
    unfold tinf at he
    split at he
    · rename_i inf u' e1 e2
      simp at he
      simp [e1, he.1]
    · simp at he
  have hlx := RdL.length _ _ hr
  rw [h1, Nat.mul_one] at hlx
  have hsame : min ys.length (h.toNat - l.toNat) = 0 → ∀ w', w' = w → SH A w0 w' (Γ.set i (.ow e v (cpyAt xs l h ys))) := fun hc w' hw => by
    subst hw
    rw [cpyAt_eq z0 z1 z2, hc, List.take_zero, List.append_nil, Nat.add_zero, List.take_append_drop, set_self hi]
    exact hh
  have hON : OwnNew Γ (Γ.set i (.ow e v (cpyAt xs l h ys))) w := .set hi (fun c hc => .inl hc)
  have hexec : (execOp a.eval ⟨d, .call ⟨.builtin .copy, #[x, y], #[t, t]⟩, ty, pos, after, g⟩).run P w = ((Builtin.copy_ #[t, t] ty #[subv (Rep.sz α) l.toNat h.toNat v, u]).run P w).andThen fun r w' => .ok (.value r) w' := by
    simp [execOp, resolve, invoke, builtin, hs.eval hx, hs.eval hy]
  rw [hlen, show ((min (h.toNat - l.toNat) ys.length : Nat) : Int) = ((min ys.length (h.toNat - l.toNat) : Nat) : Int) by rw [Nat.min_comm]]
  have hdv : ∃ dd dc, subv (Rep.sz α) l.toNat h.toNat v = .slice dd (h.toNat - l.toNat) dc := by
    obtain ⟨_, hown⟩ := hown
    rcases hown with ⟨rfl, _⟩ | ⟨gg, c, cur, rfl, _⟩ <;> exact ⟨_, _, rfl⟩
  have hzero : min ys.length (h.toNat - l.toNat) = 0 → (∃ ad sc, u = .slice ad ys.length sc) → ∃ (r : Unit) (w' : World), (execOp a.eval ⟨d, .call ⟨.builtin .copy, #[x, y], #[t, t]⟩, ty, pos, after, g⟩).run P w = .ok (.value (.int .i64 ((min ys.length (h.toNat - l.toNat) : Nat) : Int))) w' ∧ SH A w0 w' (Γ.set i (.ow e v (cpyAt xs l h ys))) ∧ Grow w w' v.ownBlock.toList ∧ OwnNew Γ (Γ.set i (.ow e v (cpyAt xs l h ys))) w := by
    intro hm0 hu
    obtain ⟨dd, dc, hd⟩ := hdv
    obtain ⟨ad, sc, rfl⟩ := hu
    refine ⟨(), w, ?_, hsame hm0 w rfl, Grow.refl w _, hON⟩
    rw [hexec, hd, run_copy_none w t t ty e dd ad (h.toNat - l.toNat) dc ys.length sc ht hsz hm0, hm0]
    simp [goInt]
  rcases hs' w hh with ⟨rfl, rfl⟩ | ⟨ad, cap, news, rfl, hnc, hnews⟩
  · exact hzero (by simp) ⟨none, 0, rfl⟩
  · have hln := RdL.length _ _ hnews
    rw [h1, Nat.mul_one] at hln
    by_cases hm0 : min ys.length (h.toNat - l.toNat) = 0
    · exact hzero hm0 ⟨_, _, rfl⟩
    obtain ⟨hl0, hown'⟩ := hown
    rcases hown' with ⟨rfl, hz0⟩ | ⟨gg, c, cur, rfl, _, hg, hnc', hcm, hcs, htake⟩
    · exfalso
      omega
    · have hcl : ¬ c = l.toNat := by omega
      have hdest : subv (Rep.sz α) l.toNat h.toNat (.slice (some ⟨gg, 0, none⟩) xs.length c) = .slice (some ⟨gg, l.toNat, none⟩) (h.toNat - l.toNat) (c - l.toNat) := by
        simp only [subv, if_neg hcl, Option.map_some]
        rw [Addr.add_lit, h1, Nat.mul_one, Nat.zero_add]
      generalize hm : min ys.length (h.toNat - l.toNat) = m at *
      have hnt : (news.take m).length = m := by rw [List.length_take]; omega
      have hcsz : cur.size = c := by rw [hcs, h1, Nat.mul_one]
      have hfit : l.toNat + (news.take m).length ≤ cur.size := by rw [hnt, hcsz]; omega
      have hrun := run_copy_row (P := P) w t t ty e gg l.toNat (h.toNat - l.toNat) (c - l.toNat) ad ys.length cap cur e (news.take m) ht hsz hg (by rw [hnt, ← hm]) (fun k v hk => hnc k v (by
          rw [List.getElem?_take] at hk
          split at hk
          · exact hk
          · simp at hk)) hfit (fun v hv => RdL.one _ _ hnews v (List.mem_of_mem_take hv))
      simp only [hnt] at hrun
      refine ⟨(), w.setRow gg (cur.toList.take l.toNat ++ news.take m ++ cur.toList.drop (l.toNat + m)).toArray, ?_, ?_, ⟨rfl, rfl, rfl, by simp, fun k _ hk => setRow_other w gg k _ (fun e => hk (by simp [Value.ownBlock, e]))⟩, hON⟩
      · rw [hexec, hdest, hrun]
        simp [goInt]
      · have hOe : Ctx.owns (Γ.set i (.ow e (.slice (some ⟨gg, 0, none⟩) xs.length c) (cpyAt xs l h ys))) = Γ.owns := owns_set_eq hi rfl
        have hgA : gg ∈ Γ.owns := List.mem_flatMap.2 ⟨_, List.mem_of_getElem? hi, by simp [Fact.owns, Value.ownBlock]⟩
        have hA : ∀ k, k < w.heap.size → ¬ (A k ∨ k ∈ Γ.owns) → (w.setRow gg (cur.toList.take l.toNat ++ news.take m ++ cur.toList.drop (l.toNat + m)).toArray).heap[k]? = w.heap[k]? ∧ ¬ (A k ∨ k ∈ Γ.owns) := fun k hk hna => ⟨setRow_other w gg k _ (fun e => hna (.inr (e ▸ hgA))), hna⟩
        refine hh.set hi ⟨rfl, rfl, rfl, by simp, fun k _ hk => setRow_other w gg k _ (fun e => hk (by simp [Fact.owns, Value.ownBlock, e]))⟩ (by simp [Fact.owns, Value.ownBlock]) (fun k hk => ?_) ?_
        · simp [Fact.owns, Value.ownBlock] at hk
          subst hk
          exact ⟨.inl (by simp [Fact.owns, Value.ownBlock]), by simpa using lt_of_some hg⟩
        · rw [hOe]
          have hlm : l.toNat + m ≤ xs.length := by omega
          have hcl2 : (cpyAt xs l h ys).length = xs.length := by rw [cpyAt_eq z0 z1 z2, hm]; simp; omega
          refine ⟨cells.take l.toNat ++ news.take m ++ cells.drop (l.toNat + m), ⟨?_, .inr ⟨gg, c, _, ?_, Nat.zero_le _, setRow_heap w gg cur _ e _ hg, ?_, hcm, ?_, ?_⟩⟩, ?_⟩
          · rw [hcl2, List.length_append, List.length_append, hnt, List.length_drop, List.length_take, hlx, h1]; omega
          · rw [hcl2]
          · rw [hcl2]; exact hnc'
          · simp only [List.size_toArray, List.length_append, hnt, List.length_drop, List.length_take, Array.length_toList]
            rw [hcsz, h1]; omega
          · rw [hcl2]
            rw [h1, Nat.mul_one] at htake ⊢
            simp only
            have hcl3 : cur.toList.length = c := by simpa using hcsz
            rw [← htake]
            apply List.ext_getElem?
            intro j
            simp only [List.getElem?_take, List.getElem?_append, List.getElem?_drop, List.length_append, List.length_take, hnt, hcl3]
            grind
          · rw [cpyAt_eq z0 z1 z2, hm]
            have t0 := RdL.take xs cells l.toNat hr
            have t1 := RdL.take ys news m hnews
            have t2 := RdL.drop xs cells (l.toNat + m) hr
            rw [h1, Nat.mul_one] at t0 t1 t2
            exact RdL.append _ _ _ _ (RdL.append _ _ _ _ (RdL.frame hA _ _ t0) (RdL.frame hA _ _ t1)) (RdL.frame hA _ _ t2)
end
/-! ### Parts of elements of an own row -/
theorem Part.trans {α β γ : Type} [Rep α] [Rep β] [Rep γ] {o o' : Nat} {x : α} {y : β} {z : γ} (h : Part o x y) (k : Part o' y z) : Part (o + o') x z := by
  intro A w cs hc
  obtain ⟨c, h1, h2⟩ := h A w cs hc
  obtain ⟨c', k1, k2⟩ := k A w c h2
  exact ⟨c', fun j u hj => by rw [Nat.add_assoc]; exact h1 _ _ (k1 j u hj), k2⟩
section
variable {R : Type} {P : Program} {n : Nat} {A : Nat → Prop} {w0 w : World} {Q : R → Exit → Act → World → Prop} {ρ ρ' : Env} {Γ Γ' : Ctx} {E : Option R}
variable {d : Option Nat} {ty : TypeId} {pos : String} {after : Array Edge} {g : Option (Nat × Bool)}
theorem st_load_ow_part {α β : Type} [Rep α] [Rep β] {x : Operand} {t e : TypeId} {b cap len off o : Nat} {xs : List α} {j : Int} {y : α} {z : β} {G : Type} {val : G → Value} {fs : G → Ctx} (i : Nat) (hO : Opens z val fs) (hP : Part o y z) (ho : off = j.toNat * Rep.sz α + o) (ht : tinf P t = some (Rep.sz β, Rep.agg β)) (hx : ev ρ x = some (.pointer (some ⟨b, off, none⟩)))
    (hi : Γ[i]? = some (.ow e (.slice (some ⟨b, 0, none⟩) len cap) xs)) (hy : idx xs j = some y) :
    St P n A w0 ρ Γ ⟨d, .load t x, ty, pos, after, g⟩ val (fun x => fs x ++ Γ) [] := by
  refine st_opens hO ?_
  intro a w hs hh
  obtain ⟨h0, h1, h2⟩ := idx_eq hy
  obtain ⟨cells, ⟨hl0, hown⟩, hr⟩ := hh.get i hi
  rcases hown with ⟨h, _⟩ | ⟨gg, cap', cur, hv, _, hg, hnc, hcm, hcs, htake⟩
  · simp at h
  simp at hv
  obtain ⟨rfl, rfl, rfl⟩ := hv
  obtain ⟨c0, hc1, hc2, hc3⟩ := RdL.get xs cells j.toNat y hr h2
  obtain ⟨c, hp1, hp2⟩ := hP _ _ _ hc2
  have hcl := Rep.len hp2
  have hcell : RowAt w b off c := by
    intro jj u hu
    have := hc3 (o + jj) u (hp1 jj u hu)
    rw [← htake, List.getElem?_take] at this
    split at this
    · rw [ho, Nat.add_assoc]
      simpa [World.cell?, hg] using this
    · simp at this
  exact ⟨Rep.val β c, w, run_load_row ht (hs.eval hx) hcl hcell, hh.cons_rd ⟨c, rfl, hp2⟩, Grow.refl w _, .plain rfl⟩
theorem ex_load_ow_part_int {α : Type} [Rep α] {x : Operand} {t e : TypeId} {b cap len off o : Nat} {xs : List α} {j : Int} {y : α} {z : Int} (i : Nat) (hP : Part o y z) (ho : off = j.toNat * Rep.sz α + o) (ht : tinf P t = some (1, false)) (hx : ev ρ x = some (.pointer (some ⟨b, off, none⟩)))
    (hi : Γ[i]? = some (.ow e (.slice (some ⟨b, 0, none⟩) len cap) xs)) (hy : idx xs j = some y) : Ex P n A w0 ρ Γ ⟨d, .load t x, ty, pos, after, g⟩ (.int .i64 z) := by
  intro a w hs hh
  obtain ⟨h0, h1, h2⟩ := idx_eq hy
  obtain ⟨cells, ⟨hl0, hown⟩, hr⟩ := hh.get i hi
  rcases hown with ⟨h, _⟩ | ⟨gg, cap', cur, hv, _, hg, hnc, hcm, hcs, htake⟩
  · simp at h
  simp at hv
  obtain ⟨rfl, rfl, rfl⟩ := hv
  obtain ⟨c0, hc1, hc2, hc3⟩ := RdL.get xs cells j.toNat y hr h2
  obtain ⟨c, hp1, hp2⟩ := hP _ _ _ hc2
  have hcl := Rep.len hp2
  have hcell : RowAt w b off c := by
    intro jj u hu
    have := hc3 (o + jj) u (hp1 jj u hu)
    rw [← htake, List.getElem?_take] at this
    split at this
    · rw [ho, Nat.add_assoc]
      simpa [World.cell?, hg] using this
    · simp at this
  have hc : c = [.int .i64 z] := hp2
  have hrun := run_load_row (d := d) (ty := ty) (pos := pos) (after := after) (g := g) (α := Int) (P := P) ht (hs.eval hx) hcl hcell
  rw [hc] at hrun
  exact hrun
end
/-! ### Arithmetic of other kinds -/
def kand (k : IntKind) (x y : Int) : Int := k.wrap (((BitVec.ofInt k.bits x &&& BitVec.ofInt k.bits y).toNat : Nat) : Int)
def kor (k : IntKind) (x y : Int) : Int := k.wrap (((BitVec.ofInt k.bits x ||| BitVec.ofInt k.bits y).toNat : Nat) : Int)
section
variable {R : Type} {P : Program} {n : Nat} {A : Nat → Prop} {w0 : World} {Q : R → Exit → Act → World → Prop} {ρ ρ' : Env} {Γ Γ' : Ctx} {E : Option R}
variable {d : Option Nat} {ty : TypeId} {pos : String} {after : Array Edge} {g : Option (Nat × Bool)}
theorem ex_addk {k : IntKind} {x y : Operand} {t u : TypeId} {m l : Int} (hx : ev ρ x = some (.int k m)) (hy : ev ρ y = some (.int k l)) : Ex P n A w0 ρ Γ ⟨d, .binOp .add t x y u, ty, pos, after, g⟩ (.int k (wk k (m + l))) := by
  intro a w hs hh
  simp [execOp, hs.eval hx, hs.eval hy, eqGuard, binOp, Op.intArith, wk]
theorem ex_subk {k : IntKind} {x y : Operand} {t u : TypeId} {m l : Int} (hx : ev ρ x = some (.int k m)) (hy : ev ρ y = some (.int k l)) : Ex P n A w0 ρ Γ ⟨d, .binOp .sub t x y u, ty, pos, after, g⟩ (.int k (wk k (m - l))) := by
  intro a w hs hh
  simp [execOp, hs.eval hx, hs.eval hy, eqGuard, binOp, Op.intArith, wk]
theorem ex_mulk {k : IntKind} {x y : Operand} {t u : TypeId} {m l : Int} (hx : ev ρ x = some (.int k m)) (hy : ev ρ y = some (.int k l)) : Ex P n A w0 ρ Γ ⟨d, .binOp .mul t x y u, ty, pos, after, g⟩ (.int k (wk k (m * l))) := by
  intro a w hs hh
  simp [execOp, hs.eval hx, hs.eval hy, eqGuard, binOp, Op.intArith, wk]
theorem ex_shlk {k : IntKind} {x y : Operand} {t u : TypeId} {m l : Int} {k' : IntKind} (hx : ev ρ x = some (.int k m)) (hy : ev ρ y = some (.int k' l)) (hl : 0 ≤ l) : Ex P n A w0 ρ Γ ⟨d, .binOp .shl t x y u, ty, pos, after, g⟩ (.int k (wk k (m * 2 ^ min l.toNat k.bits))) := by
  intro a w hs hh
  have : ¬ l < 0 := by omega
  simp [execOp, hs.eval hx, hs.eval hy, eqGuard, binOp, Op.shift, wk, this]
theorem ex_shrk {k : IntKind} {x y : Operand} {t u : TypeId} {m l : Int} {k' : IntKind} (hx : ev ρ x = some (.int k m)) (hy : ev ρ y = some (.int k' l)) (hl : 0 ≤ l) : Ex P n A w0 ρ Γ ⟨d, .binOp .shr t x y u, ty, pos, after, g⟩ (.int k (m.fdiv (2 ^ min l.toNat k.bits))) := by
  intro a w hs hh
  have : ¬ l < 0 := by omega
  simp [execOp, hs.eval hx, hs.eval hy, eqGuard, binOp, Op.shift, this]
theorem ex_andk {k : IntKind} {x y : Operand} {t u : TypeId} {m l : Int} (hx : ev ρ x = some (.int k m)) (hy : ev ρ y = some (.int k l)) : Ex P n A w0 ρ Γ ⟨d, .binOp .and t x y u, ty, pos, after, g⟩ (.int k (kand k m l)) := by
  intro a w hs hh
  simp [execOp, hs.eval hx, hs.eval hy, eqGuard, binOp, Op.intBits, kand]
theorem ex_ork {k : IntKind} {x y : Operand} {t u : TypeId} {m l : Int} (hx : ev ρ x = some (.int k m)) (hy : ev ρ y = some (.int k l)) : Ex P n A w0 ρ Γ ⟨d, .binOp .or t x y u, ty, pos, after, g⟩ (.int k (kor k m l)) := by
  intro a w hs hh
  simp [execOp, hs.eval hx, hs.eval hy, eqGuard, binOp, Op.intBits, kor]
end
end Go.Tc
namespace Go.Tc
open Go Go.RowKit

/-- A cell's value, as a datum. -/
structure Vc where
  v : Value
  one : v.oneCell' = true
instance : Rep Vc where
  sz := 1
  agg := false
  rdc _ _ cs x := cs = [x.v]
  len h := by subst h; rfl
  one := by
    intro A w cs x h c hc
    subst h
    simp at hc
    subst hc
    exact x.one
  pos := by decide
  single _ := rfl
  frame h _ := h
  dc _ cs x B := cs = [x.v] ∧ B = []
  dcf h _ := h
  dcr h _ := h.1
  dlt h b hb := by simp [h.2] at hb
  flat := true
  flt _ h := ⟨h, rfl⟩
theorem Rd.vc {A : Nat → Prop} {w : World} {v : Value} {x : Vc} (h : Rd A w v x) : v = x.v := by
  obtain ⟨cs, rfl, h⟩ := h
  simp only [Rep.rdc] at h
  subst h; rfl
theorem Rd.mk_vc (A : Nat → Prop) (w : World) (x : Vc) : Rd A w x.v x := ⟨_, rfl, rfl⟩
theorem cv_vc {x : Vc} : CV x.v [x.v] := by
  have := x.one
  refine ⟨?_, by simpa using this⟩
  cases hv : x.v <;> rw [hv] at this <;> first | rfl | simp [Value.oneCell'] at this
theorem vcs_of : ∀ (cells : List Value), (∀ c ∈ cells, c.oneCell' = true) → ∃ vs : List Vc, vs.map Vc.v = cells
  | [], _ => ⟨[], rfl⟩
  | c :: r, h => by
    obtain ⟨vs, e⟩ := vcs_of r fun d hd => h d (by simp [hd])
    exact ⟨⟨c, h c (by simp)⟩ :: vs, by simp [e]⟩
theorem rdl_vc {A : Nat → Prop} {w : World} : ∀ (vs : List Vc), RdL A w (vs.map Vc.v) vs
  | [] => rfl
  | x :: r => ⟨[x.v], r.map Vc.v, rfl, rfl, rdl_vc r⟩
theorem rdl_vc_eq {A : Nat → Prop} {w : World} : ∀ (vs : List Vc) (cs : List Value), RdL A w cs vs → cs = vs.map Vc.v
  | [], _, h => h
  | x :: r, _, ⟨c1, c2, e, h1, h2⟩ => by
    have h1 : c1 = [x.v] := h1
    rw [e, h1, rdl_vc_eq r c2 h2]
    rfl
theorem RdL.rev {α : Type} [Rep α] {A : Nat → Prop} {w : World} (hs : Rep.sz α = 1) : ∀ (xs : List α) (cs : List Value), RdL A w cs xs → RdL A w cs.reverse xs.reverse
  | [], _, h => by simp [RdL] at h; simp [RdL, h]
  | x :: r, _, ⟨c1, c2, e, h1, h2⟩ => by
    have hl := Rep.len h1
    rw [hs] at hl
    match c1, hl with
    | [c], _ =>
      subst e
      rw [List.singleton_append, List.reverse_cons, List.reverse_cons]
      exact RdL.append _ _ _ _ (RdL.rev hs r c2 h2) ⟨[c], [], rfl, h1, rfl⟩
def rev {α : Type} (xs : List α) : Option (List α) := if xs.length ≤ 1099511627776 then some xs.reverse else none
/-- What a function that turns an own row round does. -/
def RevCon (P : Program) (f : FuncId) (e : TypeId) : Prop :=
  ∀ (w : World) (v : Value) (xs ys : List Vc), Ow (fun k => k ∈ v.ownBlock.toList) w e v xs → (∀ b ∈ v.ownBlock.toList, b < w.heap.size) → rev xs = some ys →
    Calls P f #[v] w fun r w' => r = .returned (.tuple #[]) ∧ Ow (fun k => k ∈ v.ownBlock.toList) w' e v ys ∧ Grow w w' v.ownBlock.toList
theorem rev_start {α : Type} [Rep α] {w : World} {e : TypeId} {v : Value} {xs : List α} (h : Ow (fun k => k ∈ v.ownBlock.toList) w e v xs) (hb : ∀ b ∈ v.ownBlock.toList, b < w.heap.size) : SH nowhere (bare w) w [.ow e v xs, rest w v.ownBlock.toList] := by
  have ho : Ctx.owns [Fact.ow e v xs, rest w v.ownBlock.toList] = v.ownBlock.toList := by simp [Ctx.owns, Fact.owns]
  refine ⟨⟨rfl, rfl, rfl, by simp [bare], fun k hk => by simp [bare] at hk⟩, fun k hk => hk.elim, ?_, fun b hb' => ⟨by simp [bare], hb b (by rw [ho] at hb'; exact hb')⟩, by simp [Ctx.toks, Fact.toks], by simp [Ctx.toks, Fact.toks], fun f hf => ?_⟩
  · rw [ho]
    cases v.ownBlock <;> simp
  · rw [ho]
    simp only [List.mem_cons, List.not_mem_nil, or_false] at hf
    rcases hf with rfl | rfl
    · obtain ⟨cells, h1, h2⟩ := h
      refine ⟨cells, h1, RdL.frame (fun k _ hk => ⟨rfl, ?_⟩) _ _ h2⟩
      rintro (hk' | hk')
      · exact hk'
      · exact hk hk'
    · refine ⟨Nat.le_refl _, fun k hk => ⟨?_, hk.1, rfl⟩⟩
      rintro (hk' | hk')
      · exact hk'
      · exact hk.2 hk'
theorem rev_end {α : Type} [Rep α] {w w' : World} {e : TypeId} {v : Value} {xs : List α} (h : SH nowhere (bare w) w' [.ow e v xs, rest w v.ownBlock.toList]) : Ow (fun k => k ∈ v.ownBlock.toList) w' e v xs ∧ Grow w w' v.ownBlock.toList := by
  have ho : Ctx.owns [Fact.ow e v xs, rest w v.ownBlock.toList] = v.ownBlock.toList := by simp [Ctx.owns, Fact.owns]
  obtain ⟨cells, h1, h2⟩ := h.get 0 rfl
  have h3 := h.get 1 rfl
  rw [ho] at h2
  refine ⟨⟨cells, h1, RdL.frame (fun k _ hk => ⟨rfl, fun hk' => hk (.inr hk')⟩) _ _ h2⟩, h.below.os, h.below.tape, h.below.output, h3.1, fun k hk hb => (h3.2 k ⟨hk, hb⟩).2.2⟩

section
variable {R : Type} {P : Program} {n : Nat} {A : Nat → Prop} {w0 w w' : World} {Q : R → Exit → Act → World → Prop} {ρ ρ' : Env} {Γ Γ' : Ctx} {E : Option R}
variable {d : Option Nat} {ty : TypeId} {pos : String} {after : Array Edge} {g : Option (Nat × Bool)}
theorem ex_load_ow_vc {x : Operand} {t e : TypeId} {b cap len : Nat} {xs : List Vc} {j : Int} {y : Vc} (i : Nat) (ht : tinf P t = some (1, false)) (hx : ev ρ x = some (.pointer (some ⟨b, j.toNat * Rep.sz Vc, none⟩)))
    (hi : Γ[i]? = some (.ow e (.slice (some ⟨b, 0, none⟩) len cap) xs)) (hy : idx xs j = some y) :
    Ex P n A w0 ρ Γ ⟨d, .load t x, ty, pos, after, g⟩ y.v := by
  intro a w hs hh
  obtain ⟨v, w', h1, h2, _⟩ := st_load_ow (α := Vc) (d := d) (ty := ty) (pos := pos) (after := after) (g := g) i ht hx hi hy a w hs hh
  have h3 := h2.get 0 rfl
  have := Rd.vc h3
  subst this
  have hw : w' = w := by
    have h4 := h1
    obtain ⟨h0, hlt, hy2⟩ := idx_eq hy
    obtain ⟨cells, ⟨hl0, hown⟩, hr⟩ := hh.get i hi
    rcases hown with ⟨h, _⟩ | ⟨gg, cap', cur, hv, _, hg, hnc, hcm, hcs, htake⟩
    · simp at h
    simp at hv
    obtain ⟨rfl, rfl, rfl⟩ := hv
    obtain ⟨c, hc1, hc2, hc3⟩ := RdL.get xs cells j.toNat y hr hy2
    simp only [Rep.rdc] at hc2
    subst hc2
    have hc : w.cell? ⟨b, j.toNat * Rep.sz Vc, none⟩ = some y.v := by
      have := hc3 0 _ rfl
      rw [← htake, List.getElem?_take] at this
      split at this
      · simpa [World.cell?, hg] using this
      · simp at this
    simp [execOp, hs.eval hx, Instr.loadAt, Instr.sureAddr, loadVar, tinf_agg ht, run_load, hc] at h4
    exact h4.symm
  rw [hw] at h1
  exact h1
theorem N_ret0 {fn : Func} {G : Type} {v : R → G → Value} {fs : R → G → Ctx} {r : R} {e : Exit} (he : e = .ret ∨ e = .normal) (hres : fn.results = #[])
    (h : ∀ w, SH A w0 w Γ → ∃ x, .tuple #[] = v r x ∧ SH A w0 w (fs r x)) : N n A w0 (QBody P fn (Post A w0 v fs)) e ρ Γ (some r) := by
  rintro r' hr a w hs hh
  cases hr
  have key : a.defers = [] ∧ ∃ u, (results fn a.tmps).run P w = .ok u w ∧ Post A w0 v fs r (.returned u) w := by
    refine ⟨hs.defers, .tuple #[], ?_, ?_⟩
    · rw [results_rv, hres]
      simp
    · obtain ⟨x, e, hx⟩ := h w hh
      exact ⟨x, by rw [e], hx⟩
  rcases he with rfl | rfl <;> exact key
theorem RevCon.ow {f : FuncId} {e : TypeId} (hM : RevCon P f e) {α : Type} [Rep α] (hs : Rep.sz α = 1) {A : Nat → Prop} {w : World} {v : Value} {xs ys : List α} (h : Ow A w e v xs) (hA : ∀ b ∈ v.ownBlock.toList, A b) (hb : ∀ b ∈ v.ownBlock.toList, b < w.heap.size) (hr : rev xs = some ys) :
    Calls P f #[v] w fun r w' => r = .returned (.tuple #[]) ∧ Ow A w' e v ys ∧ Grow w w' v.ownBlock.toList := by
  obtain ⟨cells, h1, h2⟩ := h
  obtain ⟨vs, hvs⟩ := vcs_of cells (RdL.one _ _ h2)
  have hl := RdL.length _ _ h2
  rw [hs, Nat.mul_one] at hl
  have hvl : vs.length = xs.length := by rw [← hl, ← hvs, List.length_map]
  unfold rev at hr
  split at hr
  · rename_i hle
    have hO : Ow (fun k => k ∈ v.ownBlock.toList) w e v vs := ⟨cells, by rw [hvl]; rw [hs] at h1; exact h1, by rw [← hvs]; exact rdl_vc vs⟩
    refine (hM w v vs vs.reverse hO hb (by unfold rev; rw [hvl, if_pos hle])).mono ?_
    rintro r w' ⟨rfl, ⟨cells', h3, h4⟩, hg⟩
    refine ⟨rfl, ?_, hg⟩
    have e1 := rdl_vc_eq _ _ h4
    rw [List.map_reverse, hvs] at e1
    subst e1
    rw [← Option.some.inj hr]
    refine ⟨cells.reverse, ?_, RdL.frame (fun k hk hn => ⟨hg.block k hk (fun hm => hn (hA k hm)), hn⟩) _ _ (RdL.rev hs _ _ h2)⟩
    rw [List.length_reverse, ← hvl, hs]
    rw [List.length_reverse] at h3
    exact h3
  · simp at hr
theorem JL_rev {α : Type} [Rep α] {ops : Array Oper} {rest : List Oper} {d : Nat} {f : FuncId} {args : List Operand} {ats : Array TypeId} {v : Value} {e : TypeId} {xs ys : List α} (i : Nat) (hM : RevCon P f e) (hsz : Rep.sz α = 1)
    (hw : Wants n ρ ops ⟨some d, .call ⟨.value (.func f), args.toArray, ats⟩, ty, pos, after, g⟩) (hd : Nat.blt d n = true)
    (hf : ∀ args w, (callFunc f args).run P w = .ok (.enter f args) w) (hargs : evL ρ args = some [v]) (hi : Γ[i]? = some (.ow e v xs)) (hr' : rev xs = some ys)
    (h : JL P n A w0 ops rest Q ((d, .tuple #[]) :: ρ) (Γ.set i (.ow e v ys)) E) : JL P n A w0 ops (⟨some d, .call ⟨.value (.func f), args.toArray, ats⟩, ty, pos, after, g⟩ :: rest) Q ρ Γ E := by
  intro r hr a w hs hh
  refine wpList_step fun K hK => ?_
  rw [hw a hs]
  simp only [if_true]
  unfold Oper.wp
  rw [run_mark hs hf hargs, Oper.upon_enter]
  have hin : ∀ b ∈ v.ownBlock.toList, b ∈ Γ.owns := fun b hb => List.mem_flatMap.2 ⟨_, List.mem_of_getElem? hi, hb⟩
  refine (hM.ow hsz (hh.get i hi) (fun b hb => .inr (hin b hb)) (fun b hb => (hh.ge b (hin b hb)).2) hr').mono ?_
  rintro e' w' ⟨rfl, ho, hg⟩
  refine hK _ _ (h r hr _ _ (hs.put (by simpa [Nat.blt_eq] using hd)) ?_)
  refine hh.set hi hg (by simp only [Fact.owns]; cases v.ownBlock <;> simp) (fun b hb => ⟨.inl hb, Nat.lt_of_lt_of_le (hh.ge b (hin b hb)).2 hg.size⟩) ?_
  have e2 : Ctx.owns (Γ.set i (.ow e v ys)) = Γ.owns := owns_set_eq hi rfl
  rw [e2]
  exact ho
theorem JL_rev_od {α : Type} [Rep α] {ops : Array Oper} {rest : List Oper} {d : Nat} {f : FuncId} {args : List Operand} {ats : Array TypeId} {v : Value} {e : TypeId} {xs ys : List α} {B : List Nat} (i : Nat) (hM : RevCon P f e) (hsz : Rep.sz α = 1)
    (hw : Wants n ρ ops ⟨some d, .call ⟨.value (.func f), args.toArray, ats⟩, ty, pos, after, g⟩) (hd : Nat.blt d n = true)
    (hf : ∀ args w, (callFunc f args).run P w = .ok (.enter f args) w) (hargs : evL ρ args = some [v]) (hi : Γ[i]? = some (.od e v xs B)) (hr' : rev xs = some ys)
    (h : JL P n A w0 ops rest Q ((d, .tuple #[]) :: ρ) (Γ.set i (.od e v ys B)) E) : JL P n A w0 ops (⟨some d, .call ⟨.value (.func f), args.toArray, ats⟩, ty, pos, after, g⟩ :: rest) Q ρ Γ E := by
  intro r hr a w hs hh
  refine wpList_step fun K hK => ?_
  rw [hw a hs]
  simp only [if_true]
  unfold Oper.wp
  rw [run_mark hs hf hargs, Oper.upon_enter]
  have hli := (List.getElem?_eq_some_iff.1 hi).1
  have hin : ∀ b ∈ v.ownBlock.toList, b ∈ Γ.owns := fun b hb => List.mem_flatMap.2 ⟨_, List.mem_of_getElem? hi, hb⟩
  have hBt : ∀ c ∈ B, c ∈ Γ.toks := fun c hc => List.mem_flatMap.2 ⟨_, List.mem_of_getElem? hi, hc⟩
  obtain ⟨ts, e1, e2, e3, h1⟩ := hh.od_down i hi
  have hoi : Ctx.owns (Γ.set i (.ow e v ts)) = Γ.owns := owns_set_eq hi rfl
  have hrt : rev ts = some ts.reverse := by
    unfold rev at hr' ⊢
    rw [← e1, dats_length] at hr'
    split at hr'
    · rename_i hle
      rw [if_pos hle]
    · simp at hr'
  have hys : ys = dats ts.reverse := by
    unfold rev at hr'
    split at hr'
    · rw [← Option.some.inj hr', ← e1]
      simp [dats]
    · simp at hr'
  have hget := h1.get i (get_set hli)
  rw [hoi] at hget
  refine (hM.ow (α := Tk α) hsz hget (fun b hb => .inr (hin b hb)) (fun b hb => (hh.ge b (hin b hb)).2) hrt).mono ?_
  rintro e' w' ⟨rfl, ho, hg⟩
  refine hK _ _ (h r hr _ _ (hs.put (by simpa [Nat.blt_eq] using hd)) ?_)
  have h2 : SH A w0 w' ((Γ.set i (.ow e v ts)).set i (.ow e v ts.reverse)) := by
    refine h1.set (get_set hli) hg (by simp only [Fact.owns]; cases v.ownBlock <;> simp) (fun b hb => ⟨.inl hb, Nat.lt_of_lt_of_le (hh.ge b (hin b hb)).2 hg.size⟩) ?_
    have e2 : Ctx.owns ((Γ.set i (.ow e v ts)).set i (.ow e v ts.reverse)) = Γ.owns := by rw [List.set_set]; exact owns_set_eq hi rfl
    rw [e2]
    exact ho
  rw [List.set_set] at h2
  have hperm : (tks ts.reverse).Perm (tks ts) := by
    unfold tks
    exact (List.reverse_perm ts).flatMap_right _
  have hoi2 : Ctx.owns (Γ.set i (.ow e v ts.reverse)) = Γ.owns := owns_set_eq hi rfl
  have h3 := h2.od_up (B := B) i (get_set hli) (hperm.nodup_iff.2 e2) (fun b hb => e3 b (hperm.mem_iff.1 hb)) (fun b hb => ⟨hh.tge b (hBt b hb), Nat.lt_of_lt_of_le (hh.tlt b (hBt b hb)).1 hg.size, by rw [hoi2]; exact (hh.tlt b (hBt b hb)).2⟩) ?_
  · rw [List.set_set] at h3
    rw [hys]
    exact h3
  · have p1 := toks_perm0 hi
    have p2 := toks_perm (f' := .ow e v ts.reverse) hi
    simp only [Fact.toks, List.nil_append] at p1 p2
    refine (p2.append_left B).nodup_iff.2 ?_
    exact p1.nodup_iff.1 hh.tnd
end
end Go.Tc
namespace Go.Tc
open Go Go.RowKit

def restL (w : World) (B : List Nat) : List Nat := (List.range w.heap.size).filter (fun k => !(B.contains k))
theorem mem_restL {w : World} {B : List Nat} {k : Nat} : k ∈ restL w B ↔ k < w.heap.size ∧ k ∉ B := by
  simp [restL]
/-- All that the callee is not handed: no token of its own lies there. -/
abbrev outs (w : World) (B : List Nat) : Fact := .tkn (.int .i64 0) (0 : Int) (restL w B)

/-- Facts that hang on no rows but their own and those of their tokens. -/
def Fact.loose : Fact → Bool
  | @Fact.ow α _ _ _ _ => Rep.flat α
  | @Fact.od _ _ _ _ _ _ => true
  | @Fact.tkn _ _ _ _ _ => true
  | .bx _ _ _ => true
  | .pr _ => true
  | _ => false
theorem Fact.loose_holds {A A' : Nat → Prop} {B B' : Nat} {w : World} {f : Fact} (hl : f.loose = true) (h : f.holds A B w) (ht : ∀ b ∈ f.toks, ¬ A' b) : f.holds A' B' w := by
  cases f with
  | ow e v xs =>
    obtain ⟨cells, h1, h2⟩ := h
    exact ⟨cells, h1, (DL.flat hl _ _ h2).rd _ _ _ (by simp)⟩
  | od e v xs Bs =>
    exact ⟨h.1, fun b hb => ⟨(h.2 b hb).1, ht b hb⟩⟩
  | tkn v x Bs =>
    exact ⟨h.1, fun b hb => ⟨(h.2 b hb).1, ht b hb⟩⟩
  | bx b t cs => exact h
  | pr p => exact h
  | rd v x => simp [Fact.loose] at hl
  | pt v x => simp [Fact.loose] at hl
  | pa v x => simp [Fact.loose] at hl
  | inv B I => simp [Fact.loose] at hl
  | fz w1 C => simp [Fact.loose] at hl

/-- The callee's begin: what it is handed, and that all else stands. -/
theorem ptr_start {w : World} {Γin : Ctx} (hn : Γin.owns.Nodup) (hb : ∀ b ∈ Γin.owns, b < w.heap.size) (ht : Γin.toks = []) (hl : Γin.all Fact.loose = true) {A : Nat → Prop} {B : Nat} (hh : ∀ f ∈ Γin, f.holds A B w) :
    SH nowhere (bare w) w (Γin ++ [outs w Γin.owns, rest w Γin.owns]) := by
  have ho : Ctx.owns (Γin ++ [outs w Γin.owns, rest w Γin.owns]) = Γin.owns := by simp [Ctx.owns, Fact.owns]
  have hto : Ctx.toks (Γin ++ [outs w Γin.owns, rest w Γin.owns]) = restL w Γin.owns := by
    have : Ctx.toks (Γin ++ [outs w Γin.owns, rest w Γin.owns]) = Γin.toks ++ restL w Γin.owns := by simp [Ctx.toks, Fact.toks]
    rw [this, ht, List.nil_append]
  refine ⟨⟨rfl, rfl, rfl, by simp [bare], fun k hk => by simp [bare] at hk⟩, fun k hk => hk.elim, by rw [ho]; exact hn, fun b h => ⟨by simp [bare], ?_⟩, ?_, fun b _ => by simp [bare], fun f hf => ?_⟩
  · rw [ho] at h
    exact hb b h
  · rw [hto]
    exact List.nodup_range.filter _
  · rw [ho]
    rcases List.mem_append.1 hf with hf | hf
    · refine Fact.loose_holds (List.all_eq_true.1 hl f hf) (hh f hf) (fun b hbt => ?_)
      have : b ∈ Γin.toks := List.mem_flatMap.2 ⟨f, hf, hbt⟩
      rw [ht] at this
      simp at this
    · simp only [List.mem_cons, List.not_mem_nil, or_false] at hf
      rcases hf with rfl | rfl
      · refine ⟨⟨[], ⟨[.int .i64 0], rfl, rfl, rfl⟩, by simp, by simp⟩, fun b hbr => ⟨(mem_restL.1 hbr).1, ?_⟩⟩
        rintro (hk | hk)
        · exact hk
        · exact (mem_restL.1 hbr).2 hk
      · refine ⟨Nat.le_refl _, fun k hk => ⟨?_, hk.1, rfl⟩⟩
        rintro (hk' | hk')
        · exact hk'.elim
        · exact hk.2 hk'

def PHanded (w : World) (Γin : Ctx) : Prop := Γin.owns.Nodup ∧ (∀ b ∈ Γin.owns, b < w.heap.size) ∧ Γin.toks = [] ∧ Γin.all Fact.loose = true ∧ ∀ f ∈ Γin, f.holds (fun _ => False) 0 w
theorem SH.begin {w : World} {Γin : Ctx} {B : List Nat} (hB : Γin.owns = B) (h : PHanded w Γin) : SH nowhere (bare w) w (Γin ++ [outs w B, rest w B]) := by
  subst hB
  exact ptr_start h.1 h.2.1 h.2.2.1 h.2.2.2.1 h.2.2.2.2
theorem SH.cons_apart {α : Type} [Rep α] {w0 w : World} {Γ : Ctx} {B : List Nat} {v : Value} {x : α} (h : SH nowhere w0 w Γ) (hB : Γ.owns = B) (hr : Rd (fun k => k ∈ B) w v x) : SH nowhere w0 w (.rd v x :: Γ) :=
  h.cons_rd (by
    rw [hB]
    exact hr.weak fun k hk => hk.elim (fun h => h.elim) id)

/-- What a function does that is handed boxes and rows: they, or what has come in their place, are handed back in fs. -/
def PtrCon (P : Program) (f : FuncId) (vs : List Value) (w : World) (B : List Nat) {G : Type} (v : G → Value) (fs : G → Ctx) : Prop :=
  Calls P f vs.toArray w fun e w' => ∃ x, e = .returned (v x) ∧ SH nowhere (bare w) w' (fs x ++ [outs w B, rest w B])

section
variable {R : Type} {P : Program} {n : Nat} {A : Nat → Prop} {w0 w w' : World} {Q : R → Exit → Act → World → Prop} {ρ ρ' : Env} {Γ Γ' Δ : Ctx} {E : Option R} {B : List Nat}
variable {d : Option Nat} {ty : TypeId} {pos : String} {after : Array Edge} {g : Option (Nat × Bool)}

theorem ptr_back {A' : Nat → Prop} {w1 : World} (k : SH A' w1 w' (Δ ++ [outs w B, rest w B])) (hw : w1 = bare w) (hA' : A' = nowhere) :
    Grow w w' B ∧ (∀ b ∈ Δ.owns, b ∈ B ∨ w.heap.size ≤ b) ∧ (∀ b ∈ Δ.toks, b ∈ B ∨ w.heap.size ≤ b) ∧ Δ.owns.Nodup ∧ Δ.toks.Nodup ∧ (∀ b ∈ Δ.owns, b < w'.heap.size) ∧ ∀ b ∈ Δ.toks, b < w'.heap.size ∧ b ∉ Δ.owns := by
  subst hw hA'
  have ho : Ctx.owns (Δ ++ [outs w B, rest w B]) = Δ.owns := by simp [Ctx.owns, Fact.owns]
  have hto : Ctx.toks (Δ ++ [outs w B, rest w B]) = Δ.toks ++ restL w B := by simp [Ctx.toks, Fact.toks]
  have h1 := k.get Δ.length (f := outs w B) (by simp)
  have h2 := k.get (Δ.length + 1) (f := rest w B) (by simp)
  rw [ho] at h1 h2
  have htn := k.tnd
  rw [hto, List.nodup_append] at htn
  refine ⟨⟨k.below.os, k.below.tape, k.below.output, h2.1, fun j hj hb => (h2.2 j ⟨hj, hb⟩).2.2⟩, fun b hb => ?_, fun b hb => ?_, by have := k.nd; rw [ho] at this; exact this, htn.1, fun b hb => (k.ge b (by rw [ho]; exact hb)).2, fun b hb => ?_⟩
  · refine Classical.byContradiction fun hn => ?_
    exact (h2.2 b ⟨by omega, fun h => hn (.inl h)⟩).1 (.inr hb)
  · refine Classical.byContradiction fun hn => ?_
    exact htn.2.2 b hb b (mem_restL.2 ⟨by omega, fun h => hn (.inl h)⟩) rfl
  · have := k.tlt b (by rw [hto]; simp [hb])
    rw [ho] at this
    exact this
/-- What the callee hands back, joined to what the caller has kept. -/
theorem SH.ptr_join (h : SH A w0 w Γ) (is js : List Nat) (hn : ndup (js ++ is) = true) (hB : (Tc.sel is Γ).owns = B) (k : SH nowhere (bare w) w' (Δ ++ [outs w B, rest w B])) (hl : Δ.all Fact.loose = true) :
    SH A w0 w' (Δ ++ Tc.sel js Γ) ∧ Grow w w' B ∧ OwnNew Γ (Δ ++ Tc.sel js Γ) w := by
  obtain ⟨hg, hon, htn, hnd, htd, hlt, htl⟩ := ptr_back k rfl rfl
  have hp := h.persist js is hn hB hg
  have hBo : ∀ b ∈ B, b ∈ Γ.owns := fun b hb => by
    rw [← hB] at hb
    obtain ⟨i, _, f, hf, hbf⟩ := sel_owns is Γ b hb
    exact List.mem_flatMap.2 ⟨f, List.mem_of_getElem? hf, hbf⟩
  have hso : ∀ b ∈ (Tc.sel js Γ).owns, b ∈ Γ.owns := fun b hb => by
    obtain ⟨m, _, f, hf, hbf⟩ := sel_owns js Γ b hb
    exact List.mem_flatMap.2 ⟨f, List.mem_of_getElem? hf, hbf⟩
  have hne : ∀ b ∈ (Tc.sel js Γ).owns, b ∉ B := fun b hb hbB => by
    rw [← hB] at hbB
    obtain ⟨i, hi, f, hf, hbf⟩ := sel_owns js Γ b hb
    obtain ⟨j, hj, f', hf', hbf'⟩ := sel_owns is Γ b hbB
    exact nodup_two h.nd hf hf' ((ndup_append js is hn).2 i hi j hj) hbf hbf'
  have ho : Ctx.owns (Δ ++ Tc.sel js Γ) = Δ.owns ++ (Tc.sel js Γ).owns := by simp [Ctx.owns]
  have hto : Ctx.toks (Δ ++ Tc.sel js Γ) = Δ.toks ++ (Tc.sel js Γ).toks := by simp [Ctx.toks]
  have hge : ∀ b, b ∈ B ∨ w.heap.size ≤ b → w0.heap.size ≤ b := fun b hb => by
    rcases hb with hb | hb
    · exact (h.ge b (hBo b hb)).1
    · exact Nat.le_trans h.lt hb
  have hst : ∀ b ∈ (Tc.sel js Γ).toks, b ∈ Γ.toks := fun b hb => sel_toks js Γ b hb
  refine ⟨⟨hp.below, h.av, ?_, ?_, ?_, ?_, ?_⟩, hg, ?_⟩
  · rw [ho, List.nodup_append]
    refine ⟨hnd, hp.nd, fun a ha b hb e => ?_⟩
    subst e
    rcases hon a ha with h1 | h1
    · exact hne a hb h1
    · have := (h.ge a (hso a hb)).2; omega
  · intro b hb
    rw [ho] at hb
    rcases List.mem_append.1 hb with hb | hb
    · exact ⟨hge b (hon b hb), hlt b hb⟩
    · exact hp.ge b hb
  · rw [hto, List.nodup_append]
    refine ⟨htd, hp.tnd, fun a ha b hb e => ?_⟩
    subst e
    rcases htn a ha with h1 | h1
    · exact (h.tlt a (hst a hb)).2 (hBo a h1)
    · have := (h.tlt a (hst a hb)).1; omega
  · intro b hb
    rw [hto] at hb
    rcases List.mem_append.1 hb with hb | hb
    · exact hge b (htn b hb)
    · exact hp.tge b hb
  · intro f hf
    rcases List.mem_append.1 hf with hf | hf
    · have hk := k.all f (List.mem_append_left _ hf)
      refine Fact.loose_holds (List.all_eq_true.1 hl f hf) hk (fun b hbt => ?_)
      have hbT : b ∈ Δ.toks := List.mem_flatMap.2 ⟨f, hf, hbt⟩
      rintro (hk' | hk')
      · have h1 := h.av b hk'
        have h2 := hge b (htn b hbT)
        omega
      · rw [ho] at hk'
        rcases List.mem_append.1 hk' with hk' | hk'
        · exact (htl b hbT).2 hk'
        · rcases htn b hbT with h1 | h1
          · exact hne b hk' h1
          · have := (h.ge b (hso b hk')).2; omega
    · obtain ⟨m, hm, hmf⟩ := sel_mem js Γ f hf
      refine Fact.frame hg.size (h.all f (List.mem_of_getElem? hmf)) (fun b hb => hg.block b (h.ge b (List.mem_flatMap.2 ⟨f, List.mem_of_getElem? hmf, hb⟩)).2 (hne b (List.mem_flatMap.2 ⟨f, hf, hb⟩))) (fun j hj => hg.block j (Nat.lt_of_lt_of_le hj h.lt) (fun hm => absurd (h.ge j (hBo j hm)).1 (by omega))) (fun j hj ha => ⟨hg.block j hj (fun hm => ha (.inr (hBo j hm))), ?_⟩)
      rintro (hj' | hj')
      · exact ha (.inl hj')
      · rw [ho] at hj'
        rcases List.mem_append.1 hj' with hj' | hj'
        · rcases hon j hj' with h1 | h1
          · exact ha (.inr (hBo j h1))
          · omega
        · exact ha (.inr (hso j hj'))
  · intro b hb
    rw [ho] at hb
    rcases List.mem_append.1 hb with hb | hb
    · rcases hon b hb with h1 | h1
      · exact .inl (hBo b h1)
      · exact .inr h1
    · exact .inl (hso b hb)

/-- What the callee is handed is there. -/
theorem SH.handed {Γin : Ctx} (h : SH A w0 w Γ) (is : List Nat) (hn : ndup is = true) (hin : Tc.sel is Γ = Γin) (hl : Γin.all Fact.loose = true) (ht : Γin.all (fun f => f.toks.isEmpty) = true) :
    PHanded w Γin := by
  subst hin
  refine ⟨sel_nodup is Γ hn h.nd, fun b hb => ?_, ?_, hl, fun f hf => ?_⟩
  · obtain ⟨m, _, f, hf, hbf⟩ := sel_owns is Γ b hb
    exact (h.ge b (List.mem_flatMap.2 ⟨f, List.mem_of_getElem? hf, hbf⟩)).2
  · simp only [Ctx.toks, List.flatMap_eq_nil_iff]
    intro f hf
    simpa using List.all_eq_true.1 ht f hf
  · obtain ⟨m, _, hmf⟩ := sel_mem is Γ f hf
    exact Fact.loose_holds (List.all_eq_true.1 hl f hf) (h.all f (List.mem_of_getElem? hmf)) (fun _ _ h => h)
/-- What is read, read apart from what is handed over. -/
theorem SH.apart {α : Type} [Rep α] {v : Value} {x : α} (h : SH A w0 w Γ) (is : List Nat) (hB : (Tc.sel is Γ).owns = B) (hr : Rd (fun k => A k ∨ k ∈ Γ.owns) w v x) : Rd (fun k => k ∈ B) w v x := by
  refine hr.weak fun k hk => .inr ?_
  rw [← hB] at hk
  obtain ⟨i, _, f, hf, hbf⟩ := sel_owns is Γ k hk
  exact List.mem_flatMap.2 ⟨f, List.mem_of_getElem? hf, hbf⟩

theorem PtrCon_of {f : FuncId} {fn : Func} {body : Code} {vs : List Value} {G : Type} {v : R → G → Value} {fs : R → G → Ctx} {r : R}
    (hf : P.funcs[f]? = some fn) (hb : fn.body = some body) (hn : fn.ntmps = n) (hl : Nat.ble vs.length n = true) (hΓ : SH nowhere (bare w) w Γ) (hρ : enum 0 vs = ρ)
    (h : J P n nowhere (bare w) body (QBody P fn (Post nowhere (bare w) v (fun r x => fs r x ++ [outs w B, rest w B]))) ρ Γ E) (hE : E = some r) : PtrCon P f vs w B (v r) (fs r) :=
  ConM_of hf hb hn hl hΓ hρ h hE

def CaT (P : Program) (A : Nat → Prop) (w0 : World) (Γ : Ctx) (f : FuncId) (vs : List Value) {G : Type} (v : G → Value) (Γ' : G → Ctx) (T : List Nat) : Prop :=
  ∀ w, SH A w0 w Γ → Calls P f vs.toArray w fun e w' => ∃ x, e = .returned (v x) ∧ SH A w0 w' (Γ' x) ∧ Grow w w' T ∧ OwnNew Γ (Γ' x) w
theorem CaT_of {f : FuncId} {vs : List Value} {G : Type} {v : G → Value} {fs : G → Ctx} (is js : List Nat) (hn : ndup (js ++ is) = true) (hB : (sel is Γ).owns = B) (hl : ∀ x, (fs x).all Fact.loose = true) (h : ∀ w, SH A w0 w Γ → PtrCon P f vs w B v fs) : CaT P A w0 Γ f vs v (fun x => fs x ++ sel js Γ) B :=
  fun w hh => (h w hh).mono fun _ _ ⟨x, he, hk⟩ => ⟨x, he, hh.ptr_join is js hn hB hk (hl x)⟩
theorem JL_callT {ops : Array Oper} {rest : List Oper} {d : Nat} {f : FuncId} {args : List Operand} {ats : Array TypeId} {vs : List Value} {G : Type} {v : G → Value} {Γ' : G → Ctx} {T : List Nat}
    (hw : Wants n ρ ops ⟨some d, .call ⟨.value (.func f), args.toArray, ats⟩, ty, pos, after, g⟩) (hd : Nat.blt d n = true)
    (hf : ∀ args w, (callFunc f args).run P w = .ok (.enter f args) w) (hargs : evL ρ args = some vs) (hC : CaT P A w0 Γ f vs v Γ' T)
    (h : ∀ x, JL P n A w0 ops rest Q ((d, v x) :: ρ) (Γ' x) E) : JL P n A w0 ops (⟨some d, .call ⟨.value (.func f), args.toArray, ats⟩, ty, pos, after, g⟩ :: rest) Q ρ Γ E := by
  intro r hr a w hs hh
  refine wpList_step fun K hK => ?_
  rw [hw a hs]
  simp only [if_true]
  unfold Oper.wp
  rw [run_mark hs hf hargs, Oper.upon_enter]
  refine (hC w hh).mono ?_
  rintro e w' ⟨x, rfl, hh', _⟩
  exact hK _ _ (h x r hr _ _ (hs.put (by simpa [Nat.blt_eq] using hd)) hh')
theorem JO_callT {w1 : World} {Γ1 : Ctx} {ops : Array Oper} {O : List Nat} {fuel : Nat} {listed : Array Bool} {i d : Nat} {f : FuncId} {args : List Operand} {ats : Array TypeId} {vs : List Value} {G : Type} {v : G → Value} {Γ' : G → Ctx} {T : List Nat}
    (hi : ops[i]? = some ⟨some d, .call ⟨.value (.func f), args.toArray, ats⟩, ty, pos, after, g⟩) (hw : Wants n ρ ops ⟨some d, .call ⟨.value (.func f), args.toArray, ats⟩, ty, pos, after, g⟩) (hd : Nat.blt d n = true)
    (hf : ∀ args w, (callFunc f args).run P w = .ok (.enter f args) w) (hargs : evL ρ args = some vs) (hC : CaT P A w0 Γ f vs v Γ' T) (hT : ∀ k ∈ T, k ∈ O)
    (h : ∀ x, JD P n A w0 w1 Γ1 ops O fuel (listed.setIfInBounds i true) Q ((d, v x) :: ρ) (Γ' x) E) : JO P n A w0 w1 Γ1 ops O fuel listed Q i ρ Γ E := by
  intro r hr' a w hsa hh hg hon
  unfold wpOp
  simp only [hi, hw a hsa, if_true]
  refine .inl ?_
  unfold Oper.wp
  rw [run_mark hsa hf hargs, Oper.upon_enter]
  refine (hC w hh).mono ?_
  rintro e w' ⟨x, rfl, hh', hgr, hno⟩
  exact ⟨hg.more hgr hT, h x r hr' _ _ (hsa.put (by simpa [Nat.blt_eq] using hd)) hh' (hg.more hgr hT) (hon.trans hg hno)⟩
theorem N_ret4 {fn : Func} {rv1 rv2 rv3 rv4 : ResultVar} {u1 u2 u3 u4 : Value} {G : Type} {v : R → G → Value} {fs : R → G → Ctx} {r : R} (hres : fn.results = #[rv1, rv2, rv3, rv4]) (hu1 : Rv P n A w0 ρ Γ rv1 u1) (hu2 : Rv P n A w0 ρ Γ rv2 u2) (hu3 : Rv P n A w0 ρ Γ rv3 u3) (hu4 : Rv P n A w0 ρ Γ rv4 u4)
    (h : ∀ w, SH A w0 w Γ → ∃ x, .tuple #[u1, u2, u3, u4] = v r x ∧ SH A w0 w (fs r x)) : N n A w0 (QBody P fn (Post A w0 v fs)) .ret ρ Γ (some r) := by
  rintro r' hr a w hs hh
  cases hr
  refine ⟨hs.defers, .tuple #[u1, u2, u3, u4], ?_, ?_⟩
  · rw [results_rv, hres]
    simp [hu1 a w hs hh, hu2 a w hs hh, hu3 a w hs hh, hu4 a w hs hh]
  · obtain ⟨x, hx1, hx⟩ := h w hh
    exact ⟨x, by rw [hx1], hx⟩
theorem N_inl4 {fn : Func} {n2 : Nat} {ρ2 : Env} {ops : Array Oper} {rest : List Oper} {d : Nat} {K : R → Value → World → Prop} {rv1 rv2 rv3 rv4 : ResultVar} {u1 u2 u3 u4 : Value} (hK : Behind P n A w0 ops rest Q d ρ K) (hres : fn.results = #[rv1, rv2, rv3, rv4]) (hu1 : Rv P n2 A w0 ρ2 Γ rv1 u1) (hu2 : Rv P n2 A w0 ρ2 Γ rv2 u2) (hu3 : Rv P n2 A w0 ρ2 Γ rv3 u3) (hu4 : Rv P n2 A w0 ρ2 Γ rv4 u4)
    (h : JL P n A w0 ops rest Q ((d, .tuple #[u1, u2, u3, u4]) :: ρ) Γ E) : N n2 A w0 (QInl P fn K) .ret ρ2 Γ E := by
  intro r hr a w hs hh
  refine ⟨hs.defers, .tuple #[u1, u2, u3, u4], ?_, _, rfl, hK _ _ _ h r hr w hh⟩
  rw [results_rv, hres]
  simp [hu1 a w hs hh, hu2 a w hs hh, hu3 a w hs hh, hu4 a w hs hh]
end
end Go.Tc
namespace Go.Tc
open Go Go.RowKit

/-- Numbers that stand in a box, one after the other. -/
def ints (os : List Int) : List Value := os.map (fun x => .int .i64 x)
theorem ints_length (os : List Int) : (ints os).length = os.length := by simp [ints]
/-- What stands there when a row has been copied over it. -/
def ovr (ys : List Int) : Nat → List Int → List Int
  | _, [] => []
  | j, o :: os => ys.getD j o :: ovr ys (j + 1) os
theorem ovr_eq (ys : List Int) : ∀ (os : List Int) (j : Nat), ovr ys j os = (ys.drop j).take os.length ++ os.drop (ys.length - j)
  | [], j => by simp [ovr]
  | o :: os, j => by
    rw [ovr, ovr_eq ys os (j + 1)]
    by_cases h : j < ys.length
    · rw [List.drop_eq_getElem_cons h, List.getD_eq_getElem?_getD, List.getElem?_eq_getElem h, List.length_cons, List.take_succ_cons, show ys.length - j = (ys.length - (j + 1)) + 1 by omega, List.drop_succ_cons]
      rfl
    · have e1 : ys.length - j = 0 := by omega
      have e2 : ys.length - (j + 1) = 0 := by omega
      rw [List.getD_eq_getElem?_getD, List.getElem?_eq_none (by omega), List.drop_eq_nil_of_le (by omega : ys.length ≤ j + 1), List.drop_eq_nil_of_le (by omega : ys.length ≤ j), e1, e2]
      simp
/-- What stands there when one of them has been written. -/
def setI (v j : Int) : Nat → List Int → List Int
  | _, [] => []
  | q, o :: os => (if j = (q : Int) then v else o) :: setI v j (q + 1) os
theorem setI_eq (v j : Int) : ∀ (os : List Int) (q : Nat), setI v j q os = if (q : Int) ≤ j then os.set (j.toNat - q) v else os
  | [], q => by simp [setI]
  | o :: os, q => by
    rw [setI, setI_eq v j os (q + 1)]
    by_cases h1 : j = (q : Int)
    · subst h1
      rw [if_pos rfl, if_neg (by omega), if_pos (by omega), Int.toNat_natCast, Nat.sub_self]
      rfl
    · rw [if_neg h1]
      by_cases h2 : (q : Int) ≤ j
      · rw [if_pos (by omega), if_pos h2, show j.toNat - q = (j.toNat - (q + 1)) + 1 by omega]
        rfl
      · rw [if_neg (by omega), if_neg h2]
section
variable {R : Type} {P : Program} {n : Nat} {A : Nat → Prop} {w0 : World} {Q : R → Exit → Act → World → Prop} {ρ ρ' : Env} {Γ Γ' : Ctx} {E : Option R}
variable {d : Option Nat} {ty : TypeId} {pos : String} {after : Array Edge} {g : Option (Nat × Bool)}
theorem ex_slice_bx {x : Operand} {t e : TypeId} {m s : Nat} {ag : Bool} {b off : Nat} (ht : P.underlying t = some (.array m e)) (he : tinf P e = some (s, ag)) (hx : ev ρ x = some (.pointer (some ⟨b, off, none⟩))) :
    Ex P n A w0 ρ Γ ⟨d, .slice t x none none none, ty, pos, after, g⟩ (.slice (some ⟨b, off, none⟩) m m) := by
  intro a w hs hh
  simp [execOp, hs.eval hx, Instr.sliceAt, Instr.sureAddr, Instr.sliceBounds, run_underlying ht, tinf_size he, Addr.add_lit]
theorem rdl_int {A : Nat → Prop} {w : World} : ∀ (xs : List Int) (cs : List Value), RdL A w cs xs → cs = ints xs
  | [], _, h => h
  | x :: r, _, ⟨c1, c2, e, h1, h2⟩ => by
    have h1 : c1 = [.int .i64 x] := h1
    rw [e, h1, rdl_int r c2 h2]
    rfl
theorem st_copy_bx {x y : Operand} {t e bt : TypeId} {ag : Bool} {b off : Nat} {m : Nat} {u : Value} {cs cs' : List Value} {ys : List Int} (os : List Int) (i : Nat) (ht : P.underlying t = some (.slice e)) (he : tinf P e = some (1, ag)) (hx : ev ρ x = some (.slice (some ⟨b, off, none⟩) m m)) (hy : ev ρ y = some u) (hi : Γ[i]? = some (.bx b bt cs))
    (hoff : Nat.ble off cs.length = true) (hos : (cs.drop off).take m = ints os) (hm : os.length = m) (hcs : cs.take off ++ ints (ovr ys 0 os) ++ cs.drop (off + m) = cs') (hs' : ∀ w, SH A w0 w Γ → Src (fun k => A k ∨ k ∈ Γ.owns) w u ys) :
    St P n A w0 ρ Γ ⟨d, .call ⟨.builtin .copy, #[x, y], #[t, t]⟩, ty, pos, after, g⟩ (fun _ : Unit => .int .i64 ((min m ys.length : Nat) : Int)) (fun _ => Γ.set i (.bx b bt cs')) [b] := by
  intro a w hs hh
  have hb : w.heap[b]? = some (.cells cs.toArray bt (0, 0)) := hh.get i hi
  have hsz : (P.info? e).map (·.size) = some 1 := by
    unfold tinf at he
    split at he
    · rename_i inf u' e1 e2
      simp at he
      simp [e1, he.1]
    · simp at he
  have hON : OwnNew Γ (Γ.set i (.bx b bt cs')) w := .set hi (fun c hc => .inl hc)
  rw [Nat.ble_eq] at hoff
  have hexec : (execOp a.eval ⟨d, .call ⟨.builtin .copy, #[x, y], #[t, t]⟩, ty, pos, after, g⟩).run P w = ((Builtin.copy_ #[t, t] ty #[.slice (some ⟨b, off, none⟩) m m, u]).run P w).andThen fun r w' => .ok (.value r) w' := by
    simp [execOp, resolve, invoke, builtin, hs.eval hx, hs.eval hy]
  have hlo : ((cs.drop off).take m).length = m := by rw [hos, ints_length, hm]
  rw [List.length_take, List.length_drop] at hlo
  have hdrop : cs.drop off = ints os ++ cs.drop (off + m) := by
    have := List.take_append_drop m (cs.drop off)
    rw [hos, List.drop_drop] at this
    exact this.symm
  rcases hs' w hh with ⟨rfl, rfl⟩ | ⟨ad, cap, news, rfl, hnc, hnews⟩
  · have e0 : cs' = cs := by
      rw [← hcs, ovr_eq]
      simp only [List.drop_nil, List.take_nil, List.nil_append, List.length_nil, Nat.zero_sub, List.drop_zero]
      rw [List.append_assoc, ← hdrop, List.take_append_drop]
    refine ⟨(), w, ?_, by rw [e0, set_self hi]; exact hh, Grow.refl w _, hON⟩
    rw [hexec, run_copy_none w t t ty e (some ⟨b, off, none⟩) none m m 0 0 ht hsz (by simp)]
    simp [goInt]
  · have hln := RdL.length _ _ hnews
    have hnv := rdl_int _ _ hnews
    have h1 : Rep.sz Int = 1 := rfl
    rw [h1, Nat.mul_one] at hln
    generalize hq : min ys.length m = q at *
    have hnt : (news.take q).length = q := by rw [List.length_take]; omega
    have hrun := run_copy_row (P := P) w t t ty e b off m m ad ys.length cap cs.toArray bt (news.take q) ht hsz hb (by rw [hnt]; exact hq.symm) (fun k v hk => hnc k v (by
        rw [List.getElem?_take] at hk
        split at hk
        · exact hk
        · simp at hk)) (by rw [hnt, List.size_toArray]; omega) (fun v hv => RdL.one _ _ hnews v (List.mem_of_mem_take hv))
    simp only [hnt] at hrun
    have e1 : cs.take off ++ news.take q ++ cs.drop (off + q) = cs' := by
      rw [← hcs, ovr_eq, ← List.drop_drop, hdrop, List.drop_append_of_le_length (by rw [ints_length]; omega), hnv]
      have : ints ((ys.drop 0).take os.length ++ os.drop (ys.length - 0)) = (ints ys).take q ++ (ints os).drop q := by
        unfold ints
        rw [List.map_append, List.map_take, List.map_drop, List.drop_zero, Nat.sub_zero]
        congr 1
        · by_cases hc : os.length ≤ ys.length
          · rw [show q = os.length by omega]
          · rw [List.take_of_length_le (by simp; omega), List.take_of_length_le (by simp; omega)]
        · by_cases hc : ys.length ≤ os.length
          · rw [show q = ys.length by omega]
            simp
          · rw [List.drop_eq_nil_of_le (by omega), List.drop_eq_nil_of_le (by simp; omega)]
            rfl
      rw [this]
      simp only [List.append_assoc]
    refine ⟨(), w.setRow b cs'.toArray, ?_, ?_, ⟨rfl, rfl, rfl, by simp, fun k _ hk => setRow_other w b k _ (fun e => hk (by simp [e]))⟩, hON⟩
    · rw [hexec, hrun, e1, Nat.min_comm, hq]
      simp [goInt]
    · refine hh.set hi ⟨rfl, rfl, rfl, by simp, fun k _ hk => setRow_other w b k _ (fun e => hk (by simp [Fact.owns, e]))⟩ (by simp [Fact.owns]) (fun c hc => ?_) ?_
      · simp [Fact.owns] at hc
        subst hc
        exact ⟨.inl (by simp [Fact.owns]), by simpa using lt_of_some hb⟩
      · exact setRow_heap w b _ _ _ _ hb
theorem ex_index_bx {x ix : Operand} {t e : TypeId} {k : IntKind} {m : Nat} {ag : Bool} {b off : Nat} {os : List Int} {j y : Int} (ht : P.underlying t = some (.array m e)) (he : tinf P e = some (1, ag)) (hx : ev ρ x = some (.pointer (some ⟨b, off, none⟩))) (hix : ev ρ ix = some (.int k j)) (hm : os.length = m) (hy : idx os j = some y) :
    Ex P n A w0 ρ Γ ⟨d, .indexAddr t x ix, ty, pos, after, g⟩ (.pointer (some ⟨b, off + j.toNat, none⟩)) := by
  intro a w hs hh
  obtain ⟨h0, h1, h2⟩ := idx_eq hy
  have hb : 0 ≤ j ∧ j < (m : Int) := ⟨by omega, by omega⟩
  simp [execOp, hs.eval hx, hs.eval hix, Instr.indexAt, Instr.sureAddr, asIntOf, run_underlying ht, hb, tinf_size he, Addr.add_lit]
theorem ex_load_bi {x : Operand} {t bt : TypeId} {b off : Nat} {cs : List Value} {j y : Int} (os : List Int) (i : Nat) (ht : tinf P t = some (1, false)) (hx : ev ρ x = some (.pointer (some ⟨b, off + j.toNat, none⟩))) (hi : Γ[i]? = some (.bx b bt cs)) (hos : (cs.drop off).take os.length = ints os) (hy : idx os j = some y) :
    Ex P n A w0 ρ Γ ⟨d, .load t x, ty, pos, after, g⟩ (.int .i64 y) := by
  refine ex_load_bx i ht hx hi ?_
  obtain ⟨h0, h1, h2⟩ := idx_eq hy
  have : (ints os)[j.toNat]? = some (.int .i64 y) := by simp [ints, h2]
  rw [← hos, List.getElem?_take, if_pos (by omega), List.getElem?_drop] at this
  exact this
theorem sk_store_bi {x y : Operand} {t bt : TypeId} {b off : Nat} {cs cs' : List Value} {j v y0 : Int} (os : List Int) (i : Nat) (ht : tinf P t = some (1, false)) (hx : ev ρ x = some (.pointer (some ⟨b, off + j.toNat, none⟩))) (hv : ev ρ y = some (.int .i64 v)) (hi : Γ[i]? = some (.bx b bt cs)) (hos : (cs.drop off).take os.length = ints os) (hy : idx os j = some y0)
    (hcs : cs.take off ++ ints (setI v j 0 os) ++ cs.drop (off + os.length) = cs') :
    Sk P n A w0 ρ Γ ⟨d, .store t x y, ty, pos, after, g⟩ (Γ.set i (.bx b bt cs')) [b] := by
  obtain ⟨h0, h1, h2⟩ := idx_eq hy
  have hlo : ((cs.drop off).take os.length).length = os.length := by rw [hos, ints_length]
  rw [List.length_take, List.length_drop] at hlo
  have hdrop : cs.drop off = ints os ++ cs.drop (off + os.length) := by
    have := List.take_append_drop os.length (cs.drop off)
    rw [hos, List.drop_drop] at this
    exact this.symm
  refine sk_store_bx (P := P) (cs' := cs') i ht hx hv (vs := [.int .i64 v]) rfl rfl rfl hi (by simp [Nat.ble_eq]; omega) ?_ rfl
  rw [← hcs, setI_eq, if_pos (by omega), Nat.sub_zero]
  have e1 : ints (os.set j.toNat v) = (ints os).take j.toNat ++ [.int .i64 v] ++ (ints os).drop (j.toNat + 1) := by
    unfold ints
    rw [List.map_set, List.set_eq_take_append_cons_drop, if_pos (by simp; omega)]
    simp
  rw [e1, List.take_add, hdrop, List.take_append_of_le_length (by rw [ints_length]; omega), List.length_singleton, ← List.drop_drop, ← List.drop_drop, hdrop]
  rw [List.drop_append_of_le_length (by rw [ints_length]; omega), List.drop_append_of_le_length (by simp [ints]; omega), List.drop_drop]
  simp only [List.append_assoc]
end
/-! ### Keys with arrays of numbers in them -/
section
variable {P : Program} {w : World}
theorem run_isAgg_t {t : TypeId} {s : Nat} {ag : Bool} (h : tinf P t = some (s, ag)) : (isAgg t).run P w = .ok ag w := by simp [tinf_agg h]
theorem run_part_one {e : TypeId} (h : tinf P e = some (1, false)) {cs : Array Value} {i : Nat} {v : Value} (hv : cs[i]? = some v) : (part e cs i).run P w = .ok v w := by
  simp [part, tinf_agg h, hv]
theorem run_part_agg {e : TypeId} {s : Nat} (h : tinf P e = some (s, true)) {cs : Array Value} {i : Nat} : (part e cs i).run P w = .ok (.agg (cs.extract i (i + s))) w := by
  simp [part, tinf_agg h, tinf_size h]
theorem run_checkKey_arr' (em : Bool) (n : Nat) (t e : TypeId) (len : Nat) (cs : Array Value) (ht : P.underlying t = some (.array len e)) (hs : tinf P e = some (1, false)) (hl : cs.size = len) (hin : ∀ (w : World) (v : Value), (Instr.checkKey em n e v).run P w = .ok () w) :
    (Instr.checkKey em (n + 1) t (.agg cs)).run P w = .ok () w := by
  simp only [Instr.checkKey, Sem.run_bind, run_underlying ht, Result.andThen_ok]
  simp only [Std.Legacy.Range.forIn_eq_forIn_range', Std.Legacy.Range.size, Nat.sub_zero, Nat.add_one_sub_one, Nat.div_one]
  have hb : ∀ i ∈ List.range' 0 len 1, i < cs.size := fun i hi => by
    have := List.mem_range'.1 hi
    obtain ⟨k, hk, rfl⟩ := this
    omega
  revert hb
  generalize List.range' 0 len 1 = is
  intro hb
  induction is with
  | nil => simp
  | cons i is ih =>
    have hi := hb i (by simp)
    have hv : cs[i * 1]? = some (cs[i]'hi) := by simp [Array.getElem?_eq_getElem hi]
    simp only [List.forIn_cons, Sem.run_bind, tinf_size hs, Result.andThen_ok, run_part_one (w := w) hs hv, hin, Sem.run_pure]
    exact ih (fun j hj => hb j (by simp [hj]))
theorem run_checkKey_arr (em : Bool) (n : Nat) (t e : TypeId) (len : Nat) (cs : Array Value) (ht : P.underlying t = some (.array len e)) (he : P.underlying e = some (.int .i64)) (hs : tinf P e = some (1, false)) (hl : cs.size = len) :
    (Instr.checkKey em (n + 2) t (.agg cs)).run P w = .ok () w := run_checkKey_arr' em (n + 1) t e len cs ht hs hl fun w v => by simp [Instr.checkKey, run_underlying he]
theorem run_equal_arr3' (d : Nat) (t e : TypeId) (a0 a1 a2 b0 b1 b2 : Int) (ht : P.underlying t = some (.array 3 e)) (hs : tinf P e = some (1, false)) (hq : ∀ (w : World) (x y : Int), (Op.equalIn d e (.int .i64 x) (.int .i64 y)).run P w = .ok (x == y) w) :
    (Op.equalIn (d + 1) t (.agg #[.int .i64 a0, .int .i64 a1, .int .i64 a2]) (.agg #[.int .i64 b0, .int .i64 b1, .int .i64 b2])).run P w = .ok (a0 == b0 && (a1 == b1 && a2 == b2)) w := by
  have hz : ∀ w : World, (sizeOf e).run P w = .ok 1 w := fun w => by simp [tinf_size hs]
  have hp : ∀ (w : World) (x0 x1 x2 : Int), (part e #[.int .i64 x0, .int .i64 x1, .int .i64 x2] 0).run P w = .ok (.int .i64 x0) w ∧ (part e #[.int .i64 x0, .int .i64 x1, .int .i64 x2] 1).run P w = .ok (.int .i64 x1) w ∧ (part e #[.int .i64 x0, .int .i64 x1, .int .i64 x2] 2).run P w = .ok (.int .i64 x2) w := fun w x0 x1 x2 => ⟨run_part_one hs rfl, run_part_one hs rfl, run_part_one hs rfl⟩
  simp only [Op.equalIn, Sem.run_bind, run_underlying ht, Result.andThen_ok, hz]
  simp only [Std.Legacy.Range.forIn_eq_forIn_range', Std.Legacy.Range.size, Nat.sub_zero, Nat.add_one_sub_one, Nat.div_one]
  rw [show List.range' 0 3 1 = [0, 1, 2] from rfl]
  simp only [List.forIn_cons, List.forIn_nil, Sem.run_bind, Nat.zero_mul, Nat.one_mul, Nat.mul_one, (hp _ _ _ _).1, (hp _ _ _ _).2.1, (hp _ _ _ _).2.2, Result.andThen_ok, hq]
  cases h0 : a0 == b0 <;> cases h1 : a1 == b1 <;> cases h2 : a2 == b2 <;> simp [hp, hq, h0, h1, h2]
theorem run_equal_arr3 (d : Nat) (t e : TypeId) (a0 a1 a2 b0 b1 b2 : Int) (ht : P.underlying t = some (.array 3 e)) (he : P.underlying e = some (.int .i64)) (hs : tinf P e = some (1, false)) :
    (Op.equalIn (d + 2) t (.agg #[.int .i64 a0, .int .i64 a1, .int .i64 a2]) (.agg #[.int .i64 b0, .int .i64 b1, .int .i64 b2])).run P w = .ok (a0 == b0 && (a1 == b1 && a2 == b2)) w :=
  run_equal_arr3' (d + 1) t e a0 a1 a2 b0 b1 b2 ht hs fun w x y => by simp [Op.equalIn, run_underlying he]
end
end Go.Tc
namespace Go.Tc
open Go Go.RowKit

/-! ### Plain -/
section
variable {α S R0 : Type}
/-- A loop over a list. -/
def foldU (f : S → α → Option (S ⊕ Out S R0)) : List α → S → Option (Out S R0)
  | [], s => some (.brk s)
  | p :: l, s => match f s p with
    | none => none
    | some (.inl s') => foldU f l s'
    | some (.inr o) => some o
open Classical in
/-- What a loop over a list gives that may be taken in any order: what all orders give. -/
noncomputable def rangeU (m : List α) (f : S → α → Option (S ⊕ Out S R0)) (s : S) : Option (Out S R0) :=
  if h : ∃ o, ∀ l, l.Perm m → foldU f l s = some o then some h.choose else none
theorem rangeU_all {m : List α} {f : S → α → Option (S ⊕ Out S R0)} {s : S} {o : Out S R0} (h : rangeU m f s = some o) : ∀ l, l.Perm m → foldU f l s = some o := by
  unfold rangeU at h
  split at h
  · rename_i hx
    rw [← Option.some.inj h]
    exact hx.choose_spec
  · cases h
theorem rangeU_eq {m : List α} {f : S → α → Option (S ⊕ Out S R0)} {s : S} {o : Out S R0} (h : ∀ l, l.Perm m → foldU f l s = some o) : rangeU m f s = some o := by
  unfold rangeU
  have hx : ∃ o, ∀ l, l.Perm m → foldU f l s = some o := ⟨o, h⟩
  rw [dif_pos hx]
  have := hx.choose_spec m (.refl _)
  rw [h m (.refl _)] at this
  exact this.symm
end

/-! ### The iterator -/
def rgF (b r : Nat) (es : Array MapEntry) (clock : Nat) (seen : Array Nat) : Fact :=
  .inv [r, b] (fun w => w.heap[b]? = some (.map es clock) ∧ w.heap[r]? = some (.mapIter (some b) clock seen clock))
/-- The entries that are left, with what they are read as. -/
def leftZ {α : Type} (es : Array MapEntry) (m : List α) (seen : Array Nat) : List (MapEntry × α) := (es.toList.zip m).filter fun z => !seen.contains z.1.born
theorem filter_push {α : Type} : ∀ (Z : List (MapEntry × α)) (seen : Array Nat) (z : MapEntry × α), (Z.map (·.1.born)).Nodup → z ∈ Z → seen.contains z.1.born = false →
    (Z.filter fun y => !seen.contains y.1.born).Perm (z :: Z.filter fun y => !(seen.push z.1.born).contains y.1.born)
  | [], _, z, _, h, _ => by simp at h
  | y :: Z, seen, z, hn, hz, hs => by
    have hn' : y.1.born ∉ Z.map (·.1.born) ∧ (Z.map (·.1.born)).Nodup := List.nodup_cons.1 hn
    rcases List.mem_cons.1 hz with rfl | hz
    · rw [List.filter_cons, if_pos (by rw [hs]; rfl), List.filter_cons, if_neg (by rw [Go.contains_push]; simp)]
      refine List.Perm.cons _ (List.Perm.of_eq ?_)
      refine List.filter_congr fun x hx => ?_
      have : ¬ x.1.born = z.1.born := fun e => hn'.1 (e ▸ List.mem_map.2 ⟨x, hx, rfl⟩)
      rw [Go.contains_push]
      cases seen.contains x.1.born <;> simp [this]
    · have ih := filter_push Z seen z hn'.2 hz hs
      have hne : ¬ y.1.born = z.1.born := fun e => hn'.1 (e ▸ List.mem_map.2 ⟨z, hz, rfl⟩)
      have he : (seen.push z.1.born).contains y.1.born = seen.contains y.1.born := by
        rw [Go.contains_push]
        cases seen.contains y.1.born <;> simp [hne]
      rw [List.filter_cons, List.filter_cons, he]
      cases hc : seen.contains y.1.born
      · simp only [Bool.not_false, if_true]
        exact (ih.cons y).trans (List.Perm.swap z y _)
      · simpa using ih

section
variable {R R0 S G : Type} {P : Program} {n : Nat} {A : Nat → Prop} {w0 w w' : World} {Q : R → Exit → Act → World → Prop} {ρ ρ' : Env} {Γ Γ' : Ctx} {E : Option R}
variable {ty : TypeId} {pos : String} {after : Array Edge} {g : Option (Nat × Bool)}
variable {κ ν : Type} {enc : κ → Value} {venc : ν → Value}
/-- What is known of a map's entries. -/
def Ents (enc : κ → Value) (venc : ν → Value) (m : List (κ × ν)) (es : Array MapEntry) (clock : Nat) : Prop :=
  es.toList.map (fun e => (e.key, e.val)) = m.map (fun p => (enc p.1, venc p.2)) ∧ Stamps es clock
theorem Ents.len {m : List (κ × ν)} {es : Array MapEntry} {clock : Nat} (h : Ents enc venc m es clock) : es.toList.length = m.length := by
  have := congrArg List.length h.1
  simpa using this
theorem Ents.zip {m : List (κ × ν)} {es : Array MapEntry} {clock : Nat} (h : Ents enc venc m es clock) {e : MapEntry} (he : e ∈ es.toList) : ∃ p, (e, p) ∈ es.toList.zip m ∧ e.key = enc p.1 ∧ e.val = venc p.2 := by
  obtain ⟨i, hi, rfl⟩ := List.getElem_of_mem he
  have hl := h.len
  have hi' : i < m.length := by omega
  refine ⟨m[i], ?_, ?_⟩
  · have : (es.toList.zip m)[i]'(by rw [List.length_zip]; omega) = (es.toList[i], m[i]) := List.getElem_zip
    rw [← this]
    exact List.getElem_mem _
  · have h1 := h.1
    have : (es.toList.map (fun e => (e.key, e.val)))[i]? = (m.map (fun p => (enc p.1, venc p.2)))[i]? := by rw [h1]
    rw [List.getElem?_map, List.getElem?_map, List.getElem?_eq_getElem hi, List.getElem?_eq_getElem hi'] at this
    simpa using this
theorem SH.rg {b r : Nat} {es : Array MapEntry} {clock : Nat} {seen : Array Nat} (h : SH A w0 w Γ) (i : Nat) (hi : Γ[i]? = some (rgF b r es clock seen)) : w.heap[b]? = some (.map es clock) ∧ w.heap[r]? = some (.mapIter (some b) clock seen clock) := h.get i hi w fun _ _ => rfl
theorem JL_range {ops : Array Oper} {rest : List Oper} {d : Nat} {x : Operand} {t k e : TypeId} {b : Nat} {m : List (κ × ν)} {mv : Value} (i : Nat) (ht : P.underlying t = some (.map k e)) (hx : ev ρ x = some mv) (hmv : mv = .map (some b)) (hi : Γ[i]? = some (mpf enc venc b m))
    (hw : Wants n ρ ops ⟨some d, .range t x, ty, pos, after, g⟩) (hd : Nat.blt d n = true)
    (h : ∀ r es clock, Ents enc venc m es clock → JL P n A w0 ops rest Q ((d, .pointer (some ⟨r, 0, none⟩)) :: ρ) (Γ.set i (rgF b r es clock #[])) E) :
    JL P n A w0 ops (⟨some d, .range t x, ty, pos, after, g⟩ :: rest) Q ρ Γ E := by
  intro r0 hr a w hs hh
  subst hmv
  refine wpList_step fun K hK => ?_
  rw [hw a hs]
  simp only [if_true]
  obtain ⟨es, clock, hb, he, hst⟩ := hh.map i hi
  have hlt : b < w.heap.size := lt_of_some hb
  have hrun : (execOp a.eval ⟨some d, .range t x, ty, pos, after, g⟩).run P w = .ok (.value (.pointer (some ⟨w.heap.size, 0, none⟩))) (w.alloc (.mapIter (some b) clock #[] clock)) := by
    simp only [execOp, hs.eval hx, Sem.run_bind, Go.run_range_map w t k e b es clock ht hb]
    rfl
  unfold Oper.wp
  rw [hrun, Oper.upon_value]
  refine hK _ _ (h w.heap.size es clock ⟨he, hst⟩ r0 hr _ _ (hs.put (by simpa [Nat.blt_eq] using hd)) ?_)
  have hbo : b ∈ (mpf enc venc b m).owns := by simp [mpf, Fact.owns]
  refine hh.set hi (Grow.alloc w _ _) ?_ (fun c hc => ?_) ?_
  · simp [rgF, Fact.owns]; omega
  · simp [rgF, Fact.owns] at hc
    rcases hc with rfl | rfl
    · exact ⟨.inr (Nat.le_refl _), by simp⟩
    · exact ⟨.inl hbo, by simp; omega⟩
  · intro w' hw'
    rw [hw' b (by simp), hw' w.heap.size (by simp)]
    exact ⟨by rw [heap_alloc_old w _ hlt]; exact hb, heap_alloc_new w _⟩
theorem JL_next {ops : Array Oper} {rest : List Oper} {d : Nat} {x : Operand} {b r : Nat} {es : Array MapEntry} {clock : Nat} {seen : Array Nat} (i : Nat) (hst : Stamps es clock) (hx : ev ρ x = some (.pointer (some ⟨r, 0, none⟩))) (hi : Γ[i]? = some (rgF b r es clock seen))
    (hw : Wants n ρ ops ⟨some d, .next x false, ty, pos, after, g⟩) (hd : Nat.blt d n = true)
    (hover : (Go.leftOf es seen).size = 0 → JL P n A w0 ops rest Q ((d, .tuple #[.bool false]) :: ρ) Γ E)
    (hstep : ∀ e ∈ (Go.leftOf es seen).toList, JL P n A w0 ops rest Q ((d, .tuple #[.bool true, e.key, e.val]) :: ρ) (Γ.set i (rgF b r es clock (seen.push e.born))) E) :
    JL P n A w0 ops (⟨some d, .next x false, ty, pos, after, g⟩ :: rest) Q ρ Γ E := by
  intro r0 hr a w hs hh
  refine wpList_step fun K hK => ?_
  rw [hw a hs]
  simp only [if_true]
  obtain ⟨hb, hit⟩ := hh.rg i hi
  unfold Oper.wp
  have hexec : (execOp a.eval ⟨some d, .next x false, ty, pos, after, g⟩).run P w = ((Instr.next (.pointer (some ⟨r, 0, none⟩)) false ty).run P w).andThen fun v w' => .ok (.value v) w' := by
    simp [execOp, hs.eval hx]
  rw [hexec]
  rcases Go.run_next_at (P := P) w ty r b clock clock seen es clock hit hb (fun x hx => hst.2 x hx) (Nat.le_refl _) with ⟨h0, h1⟩ | ⟨e, he, w1, hw1, h1⟩
  · rw [h1]
    exact hK _ _ (hover h0 r0 hr _ _ (hs.put (by simpa [Nat.blt_eq] using hd)) hh)
  · rw [h1]
    refine hK _ _ (hstep e he r0 hr _ _ (hs.put (by simpa [Nat.blt_eq] using hd)) ?_)
    have hsz : w1.heap.size = w.heap.size := by rcases hw1 with rfl | rfl <;> rfl
    have hhp : ∀ k : Nat, w1.heap[k]? = w.heap[k]? := by rcases hw1 with rfl | rfl <;> exact fun _ => rfl
    have hrb : r ≠ b := fun e' => by
      subst e'
      rw [hb] at hit
      cases hit
    have hrl : r < w.heap.size := lt_of_some hit
    have hbl : b < w.heap.size := lt_of_some hb
    have hnew : (Go.ChangeMaps.setBlock w1 r (.mapIter (some b) clock (seen.push e.born) clock)).heap[r]? = some (.mapIter (some b) clock (seen.push e.born) clock) := by
      simp [Go.ChangeMaps.setBlock, hsz, hrl]
    have hold : ∀ k, k ≠ r → (Go.ChangeMaps.setBlock w1 r (.mapIter (some b) clock (seen.push e.born) clock)).heap[k]? = w.heap[k]? := fun k hk => by
      rw [← hhp k]
      simp [Go.ChangeMaps.setBlock, Array.getElem?_setIfInBounds, Ne.symm hk]
    have hg : Grow w (Go.ChangeMaps.setBlock w1 r (.mapIter (some b) clock (seen.push e.born) clock)) (rgF b r es clock seen).owns := by
      refine ⟨?_, ?_, ?_, ?_, fun k hk hk' => hold k fun e' => hk' (by simp [rgF, Fact.owns, e'])⟩
      · rcases hw1 with rfl | rfl <;> rfl
      · rcases hw1 with rfl | rfl <;> rfl
      · rcases hw1 with rfl | rfl <;> rfl
      · simp [Go.ChangeMaps.setBlock, hsz]
    refine hh.set hi hg ?_ (fun c hc => ⟨.inl hc, ?_⟩) ?_
    · simpa [rgF, Fact.owns] using hrb
    · simp [rgF, Fact.owns] at hc
      have hs2 : (Go.ChangeMaps.setBlock w1 r (.mapIter (some b) clock (seen.push e.born) clock)).heap.size = w.heap.size := by simp [Go.ChangeMaps.setBlock, hsz]
      rw [hs2]
      rcases hc with rfl | rfl
      · exact hrl
      · exact hbl
    · intro w' hw'
      rw [hw' b (by simp), hw' r (by simp)]
      exact ⟨by rw [hold b (Ne.symm hrb)]; exact hb, hnew⟩
theorem ex_entry {d : Option Nat} {x : Operand} {b r : Nat} {es : Array MapEntry} {clock : Nat} {seen : Array Nat} {e : MapEntry} {kv vv : Value} (i : Nat) (hst : Stamps es clock) (he : e ∈ es.toList) (hk : e.key = kv) (hv : e.val = vv) (hx : ev ρ x = some (.pointer (some ⟨r, 0, none⟩))) (hi : Γ[i]? = some (rgF b r es clock (seen.push e.born))) :
    Ex P n A w0 ρ Γ ⟨d, .entry x, ty, pos, after, g⟩ (.tuple #[kv, vv]) := by
  intro a w hs hh
  obtain ⟨hb, hit⟩ := hh.rg i hi
  simp only [execOp, hs.eval hx, Sem.run_bind, Go.run_entry_at (P := P) w r b clock seen es clock e hit hb he hst.1, hk, hv]
  rfl
/-- The loop is over: the map is what it was. -/
theorem SH.unrange {b r : Nat} {es : Array MapEntry} {clock : Nat} {seen : Array Nat} {m : List (κ × ν)} (h : SH A w0 w Γ) (i : Nat) (hi : Γ[i]? = some (rgF b r es clock seen)) (hE : Ents enc venc m es clock) : SH A w0 w (Γ.set i (mpf enc venc b m)) := by
  obtain ⟨hb, _⟩ := h.rg i hi
  refine h.set hi (Grow.refl w _) (by simp [mpf, Fact.owns]) (fun c hc => ?_) ?_
  · simp [mpf, Fact.owns] at hc
    subst hc
    exact ⟨.inl (by simp [rgF, Fact.owns]), lt_of_some hb⟩
  · intro w' hw'
    exact ⟨es, clock, by rw [hw' _ (by simp)]; exact hb, hE.1, hE.2⟩
theorem sat_drop {t : Nat} {v : Value} {a : Act} (h : Sat n ((t, v) :: ρ) a) (hn : ρ.get t = none) : Sat n ρ a :=
  ⟨h.size, h.defers, fun q u hq => h.get q u (by
    simp only [Env.get]
    by_cases e : t = q
    · subst e
      rw [hn] at hq
      cases hq
    · rw [beq_false_of e]
      exact hq)⟩
theorem J_range {id rid tn tk : Nat} {it : Operand} {body : Code} {ty1 ty2 : TypeId} {pos1 pos2 : String} {after1 after2 : Array Edge} (m : List (κ × ν)) (f : S → κ × ν → Option (S ⊕ Out S R0)) (ρs : S → G → Env) (Γs : S → G → Ctx) {fa : S → Option R} {fr : R0 → Option R} {b r : Nat} {es : Array MapEntry} {clock : Nat}
    (hE : Ents enc venc m es clock) (s0 : S) (g0 : G) (hρ : SubE (ρs s0 g0) ρ) (is : List Nat) (hnd : ndup is = true) (hΓ : sel is Γ = rgF b r es clock #[] :: Γs s0 g0)
    (hne : tn ≠ tk) (hit : ∀ s g, ev (ρs s g) it = some (.pointer (some ⟨r, 0, none⟩))) (htn : Nat.blt tn n = true) (htk : Nat.blt tk n = true)
    (hfree : ∀ s g, (ρs s g).get tn = none ∧ (ρs s g).get tk = none)
    (hround : ∀ (s : S) (g : G) (seen : Array Nat) (e : MapEntry) (p : κ × ν), e ∈ es.toList → e.key = enc p.1 → e.val = venc p.2 → J P n A w0 body (QRound n A w0 id Q ρs (fun s g => rgF b r es clock (seen.push e.born) :: Γs s g) ρs (fun s g => rgF b r es clock (seen.push e.born) :: Γs s g) (Out.elim fa fr))
      ((tk, .bool true) :: (tn, .tuple #[.bool true, enc p.1, venc p.2]) :: ρs s g) (rgF b r es clock (seen.push e.born) :: Γs s g) (f s p))
    (hafter : ∀ (s : S) (g : G) (seen : Array Nat), N n A w0 Q .normal (ρs s g) (rgF b r es clock seen :: Γs s g) (fa s)) :
    J P n A w0 (.block id (.loop (.seq (.region rid [⟨some tn, .next it false, ty1, pos1, after1, none⟩, ⟨some tk, .extract (.tmp tn) 0, ty2, pos2, after2, none⟩].toArray false) (.seq (.cond (.tmp tk) .skip (.exit id)) body)))) Q ρ Γ (bnd (rangeU m f s0) (Out.elim fa fr)) := by
  refine J_sel _ hρ is hnd hΓ ?_
  intro x hx a w hs hh
  obtain ⟨o, ho, hK⟩ := bnd_some hx
  have hall := rangeU_all ho
  refine wp_block ?_
  refine wp_loop_ghost (fun k a' w' => ∃ s g seen, (Go.leftOf es seen).size = k ∧ (∀ l, l.Perm ((leftZ es m seen).map (·.2)) → foldU f l s = some o) ∧ Sat n (ρs s g) a' ∧ SH A w0 w' (rgF b r es clock seen :: Γs s g)) (Go.leftOf es #[]).size ⟨s0, g0, #[], rfl, ?_, hs, hh⟩ ?_
  · intro l hl
    refine hall l (hl.trans (List.Perm.of_eq ?_))
    unfold leftZ
    have hlen := hE.len
    rw [List.filter_eq_self.2 (fun z _ => by simp)]
    apply List.ext_getElem?
    intro j
    rw [List.getElem?_map]
    by_cases hj : j < m.length
    · rw [List.getElem?_eq_getElem (by rw [List.length_zip]; omega), List.getElem_zip, List.getElem?_eq_getElem hj]
      rfl
    · rw [List.getElem?_eq_none (by rw [List.length_zip]; omega), List.getElem?_eq_none (by omega)]
      rfl
  · rintro k a' w' ⟨s, g, seen, hk, hl, hs', hh'⟩
    have hnodup : ((es.toList.zip m).map (·.1.born)).Nodup := by
      have : (es.toList.zip m).map (·.1.born) = es.toList.map (·.born) := by
        have h1 : (es.toList.zip m).map (·.1) = es.toList := List.map_fst_zip (by have := hE.len; omega)
        conv => rhs; rw [← h1]
        rw [List.map_map]
        rfl
      rw [this]
      exact hE.2.1
    have hJ : J P n A w0 (.seq (.region rid [⟨some tn, .next it false, ty1, pos1, after1, none⟩, ⟨some tk, .extract (.tmp tn) 0, ty2, pos2, after2, none⟩].toArray false) (.seq (.cond (.tmp tk) .skip (.exit id)) body))
        (fun _ : Unit => Exit.then (fun a2 w2 => ∃ n', n' < k ∧ ∃ s g seen, (Go.leftOf es seen).size = n' ∧ (∀ l, l.Perm ((leftZ es m seen).map (·.2)) → foldU f l s = some o) ∧ Sat n (ρs s g) a2 ∧ SH A w0 w2 (rgF b r es clock seen :: Γs s g)) (Exit.inBlock id (Q x))) (ρs s g) (rgF b r es clock seen :: Γs s g) (some ()) := by
      refine J_seq (J_region (JL_next 0 hE.2 (hit s g) rfl (wants_none rfl) htn (fun h0 => ?_) (fun e he => ?_)))
      · refine JL_q (wants_none rfl) htk (ex_extract (vs := #[.bool false]) (v := .bool false) (by simp [ev, Env.get]) rfl) (JL_nil (N_then (J_seq (J_if_false (b := false) (by simp [Env.get]) rfl (J_exit (N_then_exit ?_))))))
        intro _ _ a2 w2 hs2 hh2
        have hz : leftZ es m seen = [] := by
          unfold leftZ
          rw [List.filter_eq_nil_iff]
          rintro ⟨e, p⟩ hz
          have he : e ∈ es.toList := (List.of_mem_zip hz).1
          have hne : Go.leftOf es seen = #[] := Array.eq_empty_of_size_eq_zero h0
          intro hc
          have : e ∈ Go.leftOf es seen := Array.mem_filter.2 ⟨by simpa using he, hc⟩
          rw [hne] at this
          simp at this
        have hb := hl [] (by rw [hz]; exact .refl _)
        simp only [foldU, Option.some.injEq] at hb
        rw [← hb] at hK
        have hs3 : Sat n (ρs s g) a2 := sat_drop (sat_drop hs2 (by
          simp only [Env.get]
          rw [beq_false_of hne]
          exact (hfree s g).2)) (hfree s g).1
        have := hafter s g seen x hK a2 w2 hs3 hh2
        simpa [Exit.then, Exit.inBlock] using this
      · have he' := (Go.mem_left he).1
        obtain ⟨p, hz, hk', hv'⟩ := hE.zip he'
        rw [hk', hv']
        refine JL_q (wants_none rfl) htk (ex_extract (vs := #[.bool true, enc p.1, venc p.2]) (v := .bool true) (by simp [ev, Env.get]) rfl) (JL_nil (N_then (J_seq (J_if_true (b := true) (by simp [Env.get]) rfl (J_skip (N_then ?_))))))
        intro _ _ a2 w2 hs2 hh2
        have hperm := filter_push (es.toList.zip m) seen (e, p) hnodup hz (Go.mem_left he).2
        have hcons : ∀ l, l.Perm ((leftZ es m (seen.push e.born)).map (·.2)) → foldU f (p :: l) s = some o := fun l hp => by
          refine hl (p :: l) ((hp.cons p).trans ?_)
          exact (hperm.map (·.2)).symm
        have h1 := hcons _ (.refl _)
        cases hf : f s p with
        | none => simp [foldU, hf] at h1
        | some y =>
          refine Code.wp_mono ?_ (hround s g seen e p he' hk' hv' y hf a2 w2 hs2 hh2)
          intro e3 a3 w3 hq
          cases y with
          | inl s2 =>
            obtain ⟨rfl, g2, q1, q2⟩ := hq
            refine ⟨(Go.leftOf es (seen.push e.born)).size, ?_, s2, g2, seen.push e.born, rfl, fun l hp => ?_, q1, q2⟩
            · rw [← hk]; exact Go.left_shrinks es seen e he
            · have := hcons l hp
              simpa [foldU, hf] using this
          | inr y =>
            have ho2 : y = o := by simpa [foldU, hf] using h1
            subst ho2
            cases y with
            | brk s2 =>
              obtain ⟨rfl, g2, q1, q2⟩ := hq
              have := hafter s2 g2 (seen.push e.born) x hK a3 w3 q1 q2
              simpa [Exit.then, Exit.inBlock] using this
            | ret r0 =>
              obtain ⟨rfl, q1⟩ := hq
              exact q1 x hK
    exact hJ () rfl a' w' hs' hh'
end
end Go.Tc
namespace Go.Tc
open Go Go.RowKit

section
variable {α : Type}
theorem tks_append (l m : List (Tk α)) : tks (l ++ m) = tks l ++ tks m := by simp [tks]
/-- The tokens from a place on. -/
def tlB (ts : List (Tk α)) (k : Int) : List Nat := tks (ts.drop k.toNat)
theorem tks_drop (ts : List (Tk α)) (n : Nat) : (tks (ts.drop n)).Sublist (tks ts) := by
  have : tks ts = tks (ts.take n) ++ tks (ts.drop n) := by rw [← tks_append, List.take_append_drop]
  rw [this]
  exact List.sublist_append_right _ _
theorem tl_idx {ts : List (Tk α)} {xs : List α} (h : dats ts = xs) {k : Int} {y : α} (hy : idx xs k = some y) : ∃ t, idx ts k = some t ∧ t.x = y := by
  subst h
  obtain ⟨h0, hlt, hy'⟩ := idx_eq hy
  rw [dats_length] at hlt
  refine ⟨ts[k.toNat], ?_, ?_⟩
  · unfold idx
    rw [if_neg (by omega), List.getElem?_eq_getElem hlt]
  · simpa [dats, hlt] using hy'
theorem tl_next {ts : List (Tk α)} (hl : ts.length ≤ maxLen) {k : Int} {t : Tk α} (hy : idx ts k = some t) : tlB ts k = t.B ++ tlB ts (w64 (k + 1)) := by
  obtain ⟨h0, hlt, hy'⟩ := idx_eq hy
  have hm : maxLen = 9223372036854775807 := by decide
  rw [w64_in (by omega) (by omega)]
  have : (k + 1).toNat = k.toNat + 1 := by omega
  unfold tlB
  rw [this, List.drop_eq_getElem_cons hlt]
  have he : ts[k.toNat] = t := by
    rw [List.getElem?_eq_getElem hlt] at hy'
    exact Option.some.inj hy'
  rw [he]
  simp [tks]
theorem tl_sub {β : Type} {ts : List (Tk α)} {us : List (Tk β)} {xs : List β} (h : dats us = xs) (hl : us.length ≤ maxLen) {k : Int} (hk : decide (k < (xs.length : Int)) = true) : (tlB ts (w64 (k + 1))).Sublist (tlB ts k) := by
  subst h
  have hk := of_decide_eq_true hk
  rw [dats_length] at hk
  have hm : maxLen = 9223372036854775807 := by decide
  have : k.toNat ≤ (w64 (k + 1)).toNat := by
    by_cases h0 : k < 0
    · omega
    · rw [w64_in (by omega) (by omega)]
      omega
  unfold tlB
  have e : ts.drop (w64 (k + 1)).toNat = (ts.drop k.toNat).drop ((w64 (k + 1)).toNat - k.toNat) := by
    rw [List.drop_drop]
    congr 1
    omega
  rw [e]
  exact tks_drop _ _
end
section
variable {R : Type} {P : Program} {n : Nat} {A : Nat → Prop} {w0 w w' : World} {Q : R → Exit → Act → World → Prop} {ρ ρ' : Env} {Γ Γ' : Ctx} {E : Option R}
variable {d : Option Nat} {ty : TypeId} {pos : String} {after : Array Edge} {g : Option (Nat × Bool)}
/-- Tokens that nobody reads. -/
abbrev hld (B : List Nat) : Fact := .tkn (.int .i64 0) (0 : Int) B
theorem SH.hld_sub {B C : List Nat} (h : SH A w0 w Γ) (i : Nat) (hi : Γ[i]? = some (hld B)) (hs : C.Sublist B) : SH A w0 w (Γ.set i (hld C)) := by
  refine h.retell hi rfl (fun hk => ⟨?_, fun b hb => hk.2 b (hs.subset hb)⟩) ?_ (fun b hb => h.tge b (List.mem_flatMap.2 ⟨_, List.mem_of_getElem? hi, hs.subset hb⟩))
  · exact ⟨[], ⟨[.int .i64 0], rfl, rfl, rfl⟩, by simp, by simp⟩
  · refine (toks_perm (f' := hld C) hi).nodup_iff.2 ?_
    refine ((toks_perm0 hi).nodup_iff.1 h.tnd).sublist ?_
    exact List.Sublist.append hs (List.Sublist.refl _)
theorem owns_hld {B C : List Nat} {i : Nat} (hi : Γ[i]? = some (hld B)) : Ctx.owns (Γ.set i (hld C)) = Γ.owns := owns_set_eq (f' := hld C) hi rfl
/-- What is taken out takes its tokens along. -/
theorem SH.tl_take {β : Type} [Rep β] {v : Value} {z : β} {B C D : List Nat} (h : SH A w0 w Γ) (i j : Nat) (hi : Γ[i]? = some (.rd v (⟨z, B⟩ : Tk β))) (hj : Γ[j]? = some (hld D)) (hD : D = B ++ C) :
    SH A w0 w (.rd v z :: .tkn v z B :: Γ.set j (hld C)) := by
  subst hD
  have hD := (h.get j hj).2
  obtain ⟨cs, hv, hdc, hav⟩ := h.get i hi
  have hn := (toks_perm0 hj).nodup_iff.1 h.tnd
  simp only [Fact.toks] at hn
  have hBn : B.Nodup := (List.nodup_append.1 (List.nodup_append.1 hn).1).1
  have h1 := h.hld_sub j hj (List.sublist_append_right B C)
  have h2 : SH A w0 w (.tkn v z B :: Γ.set j (hld C)) := by
    refine h1.consT (Grow.refl w []) (by simp [Fact.owns]) (by simp [Fact.owns]) ⟨⟨B, ⟨cs, hv, hdc⟩, hBn, fun _ h => h⟩, fun b hb => ⟨(hD b (by simp [hb])).1, ?_⟩⟩ ?_ (fun b hb => h.tge b (List.mem_flatMap.2 ⟨_, List.mem_of_getElem? hj, by have hb' : b ∈ B := hb; simp [Fact.toks, hb']⟩))
    · have ho : Ctx.owns (Fact.tkn v z B :: Γ.set j (hld C)) = Γ.owns := by
        have h6 : Ctx.owns (Fact.tkn v z B :: Γ.set j (hld C)) = Ctx.owns (Γ.set j (hld C)) := by simp [Ctx.owns, Fact.owns]
        rw [h6, owns_hld hj]
      rw [ho]
      exact hav b hb
    · show (B ++ Ctx.toks (Γ.set j (hld C))).Nodup
      refine ((toks_perm (f' := hld C) hj).append_left B).nodup_iff.2 ?_
      simp only [Fact.toks]
      rw [← List.append_assoc]
      exact hn
  exact h2.tkn_rd 0 rfl
theorem tl_owns {β : Type} [Rep β] {v : Value} {z : β} {B C D : List Nat} {j : Nat} (hj : Γ[j]? = some (hld D)) : ∀ b ∈ Ctx.owns (.rd v z :: .tkn v z B :: Γ.set j (hld C)), b ∈ Γ.owns := fun b hb => by
  have h6 : Ctx.owns (.rd v z :: .tkn v z B :: Γ.set j (hld C)) = Ctx.owns (Γ.set j (hld C)) := by simp [Ctx.owns, Fact.owns]
  rw [h6, owns_hld hj] at hb
  exact hb
/-- A row with tokens is from here on read alone; what is taken out of it takes its tokens along. -/
theorem SH.tail {α : Type} [Rep α] {e : TypeId} {v : Value} {xs : List α} {B : List Nat} (h : SH A w0 w Γ) (i : Nat) (hi : Γ[i]? = some (.od e v xs B)) (k : Int) :
    ∃ ts : List (Tk α), dats ts = xs ∧ ts.length ≤ maxLen ∧ SH A w0 w (hld (tlB ts k) :: .rd v ts :: Γ.set i (.rd v xs)) := by
  have hli := (List.getElem?_eq_some_iff.1 hi).1
  obtain ⟨⟨cells, B0, ho1, _, _, _⟩, h3⟩ := h.get i hi
  obtain ⟨ts, e1, e2, e4, h1⟩ := h.od_down i hi
  have hlen : ts.length ≤ maxLen := by
    rw [← dats_length, e1]
    rcases ho1.2 with ⟨_, h0⟩ | ⟨_, cap, _, _, _, _, hc, hm, _, _⟩
    · omega
    · omega
  have h5 := (h.od_ow i hi).freeze i (get_set hli)
  have h6 := h1.freeze i (get_set hli)
  rw [List.set_set] at h5 h6
  have ho : ∀ {β : Type} [Rep β] (y : β), ∃ l1 l2, Γ.owns = l1 ++ v.ownBlock.toList ++ l2 ∧ Ctx.owns (Γ.set i (.rd v y)) = l1 ++ [] ++ l2 := fun {β} _ y => owns_set (f' := .rd v y) hi
  have hoo : Ctx.owns (Γ.set i (.rd v ts)) = Ctx.owns (Γ.set i (.rd v xs)) := by
    have a := owns_set_eq (Γ := Γ.set i (.rd v ts)) (f := .rd v ts) (f' := .rd v xs) (get_set hli) rfl
    rw [List.set_set] at a
    exact a.symm
  have hrd := h6.get i (get_set hli)
  have h7 : SH A w0 w (.rd v ts :: Γ.set i (.rd v xs)) := h5.cons_rd (by rw [← hoo]; exact hrd)
  have hsub : ∀ b ∈ tlB ts k, b ∈ B := fun b hb => e4 b ((tks_drop ts _).subset hb)
  have hBt : ∀ b ∈ B, b ∈ Γ.toks := fun c hc => List.mem_flatMap.2 ⟨_, List.mem_of_getElem? hi, hc⟩
  have hsubo : ∀ b ∈ Ctx.owns (Γ.set i (.rd v xs)), b ∈ Γ.owns := fun b hb => by
    obtain ⟨l1, l2, a, c⟩ := ho xs
    rw [c] at hb
    rw [a]
    simp only [List.append_nil, List.mem_append] at hb ⊢
    rcases hb with hb | hb
    · exact .inl (.inl hb)
    · exact .inr hb
  refine ⟨ts, e1, hlen, ?_⟩
  refine h7.consT (Grow.refl w []) (by simp [Fact.owns]) (by simp [Fact.owns]) ⟨⟨[], ⟨[.int .i64 0], rfl, rfl, rfl⟩, by simp, by simp⟩, fun b hb => ⟨(h3 b (hsub b hb)).1, ?_⟩⟩ ?_ (fun b hb => h.tge b (hBt b (hsub b hb)))
  · have h8 : Ctx.owns (hld (tlB ts k) :: .rd v ts :: Γ.set i (.rd v xs)) = Ctx.owns (Γ.set i (.rd v xs)) := by simp [Ctx.owns, Fact.owns]
    rw [h8]
    rintro (hk | hk)
    · exact (h3 b (hsub b hb)).2 (.inl hk)
    · exact (h3 b (hsub b hb)).2 (.inr (hsubo b hk))
  · show (tlB ts k ++ Ctx.toks (.rd v ts :: Γ.set i (.rd v xs))).Nodup
    have h9 : Ctx.toks (.rd v ts :: Γ.set i (.rd v xs)) = Ctx.toks (Γ.set i (.rd v xs)) := by simp [Ctx.toks, Fact.toks]
    rw [h9]
    refine ((toks_perm (f' := .rd v xs) hi).append_left _).nodup_iff.2 ?_
    have p4 := (toks_perm0 hi).nodup_iff.1 h.tnd
    simp only [Fact.toks, List.nil_append] at p4 ⊢
    rw [List.nodup_append] at p4 ⊢
    exact ⟨e2.sublist (tks_drop ts _), p4.2.1, fun a ha b hb e => p4.2.2 a (hsub a ha) b hb e⟩
theorem J_tail {α : Type} [Rep α] {c : Code} {e : TypeId} {v : Value} {xs : List α} {B : List Nat} (i : Nat) (hi : Γ[i]? = some (.od e v xs B)) (k : Int)
    (h : ∀ ts : List (Tk α), dats ts = xs → ts.length ≤ maxLen → J P n A w0 c Q ρ (hld (tlB ts k) :: .rd v ts :: Γ.set i (.rd v xs)) E) : J P n A w0 c Q ρ Γ E := by
  intro r hr a w hs hh
  obtain ⟨ts, h1, h2, h3⟩ := hh.tail i hi k
  exact h ts h1 h2 r hr a w hs h3
theorem opT_sl {α : Type} [Rep α] (t : Tk (List α)) {y : List α} (hy : t.x = y) : Opens t (fun v : Value => v) (fun v => [.rd v (⟨y, t.B⟩ : Tk (List α))]) := by
  subst hy
  intro A B w v h
  exact ⟨v, rfl, by simpa [Fact.owns, Fact.toks, Fact.holds] using h⟩
end
end Go.Tc
