/-
  Function values that read only: made, handed on, called. No condition.
  Own rows whose inner rows lie apart, told by tokens: made, appended to, stored into, frozen, handed out. No condition.
  The calculus, further: operations on rows with tokens, calls that hand out what lies apart, parts of rows handed on, calls that are walked in place. No condition.
  Functions that write marks into all numbers of a datum: their contracts, and the steps by which these are walked. No condition.
  The calculus, further: marks on data with tokens, calls walked in place, parts of rows handed on, more operations. No condition.
  The calculus, further: tokens of a part, copies, rows opened among orders, a row changed twice among orders, parts of rows handed on. No condition.
  The calculus, further: operations of a region that make memory, each apart from the others, in whatever order; calls of function values walked in place. No condition.
  The calculus, further: maps of the call's own, as lists of entries; shifts and bits; calls walked in place among orders. No condition.
  The calculus, further: ints of other kinds, texts out of bytes. No condition.
-/
import Derived.Test.YtgojoooilijiiaaCore
import Derived.Laws.Small
import Derived.Lib.SliceRun
import Derived.Lib.AppendZerosOnto
import Derived.Laws.CopyRow
namespace Go.Tc
open Go Go.RowKit
section
variable {R : Type} {P : Program} {n : Fr} {A : Nat → Prop} {w0 w : World} {Q : R → Exit → Act → World → Prop} {ρ ρ' : Env} {Γ Γ' : Ctx} {E : Option R}
variable {d : Option Nat} {ty : TypeId} {pos : String} {after : Array Edge} {g : Option (Nat × Bool)}

/-- A function value of one parameter that reads only and hands no memory out, in every world that has grown from w0. -/
def Clo (P : Program) (w0 : World) {α S : Type} [Rep α] (cv : Value) (φ : α → Option S) (val : S → Value) : Prop :=
  ∃ (f : FuncId) (caps : List Value), cv = .func (.func f) #[] caps.toArray ∧ (∀ args w, (callFunc f args).run P w = .ok (.enter f args) w) ∧
    ∀ w, Below w0.heap.size w0 w → ∀ (v : Value) (x : α) (r : S), Rd nowhere w v x → φ x = some r → Con P f (v :: caps) nowhere w (fun _ : Unit => val r) (fun _ => [])
theorem Clo.mk {α S : Type} [Rep α] {φ : α → Option S} {val : S → Value} {f : FuncId} {caps : List Value} (hf : ∀ args w, (callFunc f args).run P w = .ok (.enter f args) w)
    (h : ∀ w, Below w0.heap.size w0 w → ∀ (v : Value) (x : α) (r : S), Rd nowhere w v x → φ x = some r → Con P f (v :: caps) nowhere w (fun _ : Unit => val r) (fun _ => [])) : Clo P w0 (.func (.func f) #[] caps.toArray) φ val :=
  ⟨f, caps, rfl, hf, h⟩
theorem Clo.later {α S : Type} [Rep α] {cv : Value} {φ : α → Option S} {val : S → Value} (h : Clo P w0 cv φ val) (hb : Below w0.heap.size w0 w) : Clo P w cv φ val := by
  obtain ⟨f, caps, h1, h2, h3⟩ := h
  exact ⟨f, caps, h1, h2, fun w' hb' => h3 w' (hb.trans (hb'.mono hb.size))⟩
theorem RdA.later {α : Type} [Rep α] {w w' : World} {p : Value} {x : α} (h : RdA nowhere w.heap.size w p x) (hb : Below w.heap.size w w') : RdA nowhere w'.heap.size w' p x := by
  obtain ⟨b, off, cs, h1, h2, h3, h4⟩ := h
  exact ⟨b, off, cs, h1, Nat.lt_of_lt_of_le h2 hb.size, h3.frame (hb.block b h2), Rep.frame h4 fun k hk ha => ⟨hb.block k hk, ha⟩⟩
theorem ex_makeFunc {f : FuncId} {caps : List Operand} {vs : List Value} (hc : evL ρ caps = some vs) : Ex P n A w0 ρ Γ ⟨d, .makeFunc (.func f) #[] caps.toArray, ty, pos, after, g⟩ (.func (.func f) #[] vs.toArray) := by
  intro a w hs hh
  simp [execOp, Instr.makeFunc, hs.evalL hc]

theorem run_callv {a : Act} {d : Nat} {o : Operand} {f : FuncId} {args : List Operand} {ats : Array TypeId} {vs caps : List Value} (hs : Sat n ρ a)
    (hf : ∀ args w, (callFunc f args).run P w = .ok (.enter f args) w) (ho : ev ρ o = some (.func (.func f) #[] caps.toArray)) (hargs : evL ρ args = some vs) :
    (execOp a.eval ⟨some d, .call ⟨.value o, args.toArray, ats⟩, ty, pos, after, g⟩).run P w = .ok (.enter f (vs ++ caps).toArray) w := by
  simp [execOp, resolve, hs.eval ho, Deferred.ofValue, invoke, hs.evalL hargs, hf]
/-- A call of a function value that is known. -/
theorem JL_callv {ops : Array Oper} {rest : List Oper} {d : Nat} {o : Operand} {f : FuncId} {args : List Operand} {ats : Array TypeId} {vs caps : List Value} {G : Type} {v : G → Value} {Γ' : G → Ctx}
    (hw : Wants n ρ ops ⟨some d, .call ⟨.value o, args.toArray, ats⟩, ty, pos, after, g⟩) (hd : Nat.blt d n.n = true)
    (hf : ∀ args w, (callFunc f args).run P w = .ok (.enter f args) w) (ho : ev ρ o = some (.func (.func f) #[] caps.toArray)) (hargs : evL ρ args = some vs) (hC : Ca P A w0 Γ f (vs ++ caps) v Γ')
    (h : ∀ x, JL P n A w0 ops rest Q ((d, v x) :: ρ) (Γ' x) E) : JL P n A w0 ops (⟨some d, .call ⟨.value o, args.toArray, ats⟩, ty, pos, after, g⟩ :: rest) Q ρ Γ E := by
  intro r hr a w hs hh
  refine wpList_step fun K hK => ?_
  rw [hw a hs]
  simp only [if_true]
  unfold Oper.wp
  rw [run_callv hs hf ho hargs, Oper.upon_enter]
  refine (hC w hh).mono ?_
  rintro e w' ⟨x, rfl, hh', _⟩
  exact hK _ _ (h x r hr _ _ (hs.put (by simpa [Nat.blt_eq] using hd)) hh')
/-- What a call of a handed function value gives. -/
theorem Clo.ca {α S : Type} [Rep α] {cv v : Value} {φ : α → Option S} {val : S → Value} {y : α} {r : S} (hC : Clo P w0 cv φ val) (hrd : ∀ w, SH A w0 w Γ → Rd nowhere w v y) (hr : φ y = some r) :
    ∃ (f : FuncId) (caps : List Value), cv = .func (.func f) #[] caps.toArray ∧ (∀ args w, (callFunc f args).run P w = .ok (.enter f args) w) ∧ Ca P A w0 Γ f ([v] ++ caps) (fun _ : Unit => val r) (fun _ => Γ) := by
  obtain ⟨f, caps, h1, h2, h3⟩ := hC
  exact ⟨f, caps, h1, h2, Ca_of0 fun w hh => h3 w hh.below v y r (hrd w hh) hr⟩
theorem JL_clo {ops : Array Oper} {rest : List Oper} {d : Nat} {o a : Operand} {ats : Array TypeId} {α S : Type} [Rep α] {cv v : Value} {φ : α → Option S} {val : S → Value} {y : α} {r : S}
    (hw : Wants n ρ ops ⟨some d, .call ⟨.value o, #[a], ats⟩, ty, pos, after, g⟩) (hd : Nat.blt d n.n = true) (hC : Clo P w0 cv φ val) (ho : ev ρ o = some cv) (ha : ev ρ a = some v)
    (hrd : ∀ w, SH A w0 w Γ → Rd nowhere w v y) (hr : φ y = some r) (h : JL P n A w0 ops rest Q ((d, val r) :: ρ) Γ E) : JL P n A w0 ops (⟨some d, .call ⟨.value o, #[a], ats⟩, ty, pos, after, g⟩ :: rest) Q ρ Γ E := by
  obtain ⟨f, caps, rfl, hf, hca⟩ := hC.ca hrd hr
  exact JL_callv (args := [a]) hw hd hf ho (by simp [evL, ha]) hca (fun _ => h)
end
section
variable {R : Type} {P : Program} {n : Fr} {A : Nat → Prop} {w0 w1 : World} {Γ1 : Ctx} {ops : Array Oper} {O : List Nat} {fuel : Nat} {listed : Array Bool} {Q : R → Exit → Act → World → Prop} {ρ ρ' : Env} {Γ Γ' : Ctx} {E : Option R}
variable {ty : TypeId} {pos : String} {after : Array Edge} {g : Option (Nat × Bool)}
end
end Go.Tc
namespace Go.Tc
open Go Go.RowKit

/-- A datum with the blocks of its rows. -/
structure Tk (α : Type) where
  x : α
  B : List Nat
instance {α : Type} [Rep α] : Rep (Tk α) where
  sz := Rep.sz α
  agg := Rep.agg α
  rdc A w cs t := Rep.dc w cs t.x t.B ∧ ∀ b ∈ t.B, ¬ A b
  len h := Rep.len (Rep.dcr h.1 h.2)
  one h := Rep.one (Rep.dcr h.1 h.2)
  pos := Rep.pos
  single := Rep.single
  frame h hf := ⟨Rep.dcf h.1 fun b hb => (hf b (Rep.dlt h.1 b hb) (h.2 b hb)).1, fun b hb => (hf b (Rep.dlt h.1 b hb) (h.2 b hb)).2⟩
  dc w cs t B := Rep.dc w cs t.x B ∧ t.B = B
  dcf h hf := ⟨Rep.dcf h.1 hf, h.2⟩
  dcr h hA := ⟨by rw [h.2]; exact h.1, by rw [h.2]; exact hA⟩
  dlt h := Rep.dlt h.1
  flat := false
  flt h := by cases h

def tks {α : Type} (xs : List (Tk α)) : List Nat := xs.flatMap Tk.B
def dats {α : Type} (xs : List (Tk α)) : List α := xs.map Tk.x
theorem dats_length {α : Type} (xs : List (Tk α)) : (dats xs).length = xs.length := by simp [dats]
theorem DL.tk {α : Type} [Rep α] {A : Nat → Prop} {w : World} : ∀ (xs : List α) (cs : List Value) (B : List Nat), DL w cs xs B → (∀ b ∈ B, ¬ A b) → ∃ ts : List (Tk α), dats ts = xs ∧ tks ts = B ∧ RdL A w cs ts
  | [], _, _, h, _ => ⟨[], rfl, h.2.symm, h.1⟩
  | x :: r, _, _, ⟨c1, c2, B1, B2, e, eB, h1, h2⟩, hA => by
    subst eB
    obtain ⟨ts, e1, e2, h3⟩ := DL.tk r c2 B2 h2 fun b hb => hA b (by simp [hb])
    exact ⟨⟨x, B1⟩ :: ts, by simp [dats] at e1 ⊢; exact e1, by simp [tks] at e2 ⊢; exact e2, c1, c2, e, ⟨h1, fun b hb => hA b (by simp [hb])⟩, h3⟩
theorem RdL.untk {α : Type} [Rep α] {A : Nat → Prop} {w : World} : ∀ (ts : List (Tk α)) (cs : List Value), RdL A w cs ts → DL w cs (dats ts) (tks ts) ∧ ∀ b ∈ tks ts, ¬ A b
  | [], _, h => ⟨⟨h, rfl⟩, by simp [tks]⟩
  | t :: r, _, ⟨c1, c2, e, h1, h2⟩ => by
    obtain ⟨h3, h4⟩ := RdL.untk r c2 h2
    refine ⟨⟨c1, c2, t.B, tks r, e, rfl, h1.1, h3⟩, fun b hb => ?_⟩
    simp only [tks, List.flatMap_cons, List.mem_append] at hb
    rcases hb with hb | hb
    · exact h1.2 b hb
    · exact h4 b hb

/-! ### Contexts: facts spent -/
def kill : List Nat → Ctx → Ctx
  | [], Γ => Γ
  | j :: js, Γ => kill js (Γ.set j (.pr True))
section
variable {A : Nat → Prop} {w0 w w' : World} {Γ Γ' : Ctx}
theorem set_self {f : Fact} {i : Nat} (hi : Γ[i]? = some f) : Γ.set i f = Γ := by
  apply List.ext_getElem?
  intro j
  rw [List.getElem?_set]
  by_cases e : i = j
  · subst e
    rw [if_pos rfl, if_pos (List.getElem?_eq_some_iff.1 hi).1, hi]
  · rw [if_neg e]
theorem get_set {f : Fact} {i : Nat} (hlt : i < Γ.length) : (Γ.set i f)[i]? = some f := by simp [hlt]
theorem toks_perm {f f' : Fact} {i : Nat} (hi : Γ[i]? = some f) : (Ctx.toks (Γ.set i f')).Perm (f'.toks ++ Ctx.toks (Γ.set i (.pr True))) := by
  obtain ⟨l1, l2, _, e2⟩ := toks_set (f' := f') hi
  have hlt := (List.getElem?_eq_some_iff.1 hi).1
  obtain ⟨m1, m2, a1, a2⟩ := toks_set (Γ := Γ.set i f') (f := f') (f' := .pr True) (i := i) (get_set hlt)
  rw [List.set_set] at a2
  rw [a1, a2]
  simp only [Fact.toks, List.append_nil]
  exact (List.perm_append_comm.append_right m2).trans (by rw [List.append_assoc])
theorem toks_perm0 {f : Fact} {i : Nat} (hi : Γ[i]? = some f) : (Ctx.toks Γ).Perm (f.toks ++ Ctx.toks (Γ.set i (.pr True))) := by
  have := toks_perm (f' := f) hi
  rwa [set_self hi] at this
theorem sel_set_ne {f : Fact} {j : Nat} : ∀ (is : List Nat), (∀ i ∈ is, i ≠ j) → sel is (Γ.set j f) = sel is Γ
  | [], _ => rfl
  | i :: is, h => by
    have hi : i ≠ j := h i (by simp)
    simp only [sel, List.getElem?_set_ne (Ne.symm hi)]
    rw [sel_set_ne is fun k hk => h k (by simp [hk])]
theorem kill_toks : ∀ (js : List Nat) (Γ : Ctx), ndup js = true → Γ.toks.Perm ((sel js Γ).toks ++ (kill js Γ).toks)
  | [], Γ, _ => by simp [sel, kill, Ctx.toks]
  | j :: js, Γ, hn => by
    simp only [ndup, Bool.and_eq_true, Bool.not_eq_true', List.any_eq_false] at hn
    have hne : ∀ i ∈ js, i ≠ j := fun i hi e => hn.1 i hi (by subst e; exact Nat.beq_refl i)
    have ih := kill_toks js (Γ.set j (.pr True)) hn.2
    rw [sel_set_ne js hne] at ih
    simp only [sel, kill]
    cases hj : Γ[j]? with
    | none =>
      rw [List.set_eq_of_length_le (by simpa using hj)] at ih ⊢
      exact ih
    | some f =>
      refine (toks_perm0 hj).trans ?_
      simp only [Ctx.toks, List.flatMap_cons, List.append_assoc] at ih ⊢
      exact ih.append_left _
theorem SH.dead {f : Fact} {i : Nat} (h : SH A w0 w Γ) (hi : Γ[i]? = some f) : SH A w0 w (Γ.set i (.pr True)) :=
  h.set hi (Grow.refl w _) (by simp [Fact.owns]) (by simp [Fact.owns]) trivial
theorem SH.kill : ∀ (js : List Nat) {Γ : Ctx}, SH A w0 w Γ → SH A w0 w (kill js Γ)
  | [], _, h => h
  | j :: js, Γ, h => by
    refine SH.kill js ?_
    cases hj : Γ[j]? with
    | none => rw [List.set_eq_of_length_le (by simpa using hj)]; exact h
    | some f => exact h.dead hj
theorem owns_dead {i : Nat} : ∀ {b : Nat}, b ∈ Ctx.owns (Γ.set i (.pr True)) → b ∈ Γ.owns := by
  intro b hb
  cases hj : Γ[i]? with
  | none => rwa [List.set_eq_of_length_le (by simpa using hj)] at hb
  | some f =>
    obtain ⟨l1, l2, e1, e2⟩ := owns_set (f' := .pr True) hj
    rw [e2] at hb
    rw [e1]
    simp only [Fact.owns, List.append_nil, List.mem_append] at hb ⊢
    rcases hb with hb | hb
    · exact .inl (.inl hb)
    · exact .inr hb
theorem owns_kill : ∀ (js : List Nat) {Γ : Ctx} {b : Nat}, b ∈ Ctx.owns (Tc.kill js Γ) → b ∈ Γ.owns
  | [], _, _, h => h
  | _ :: js, _, _, h => owns_dead (owns_kill js h)
theorem owns_set_eq {f f' : Fact} {i : Nat} (hi : Γ[i]? = some f) (ho : f'.owns = f.owns) : Ctx.owns (Γ.set i f') = Γ.owns := by
  obtain ⟨l1, l2, e1, e2⟩ := owns_set (f' := f') hi
  rw [e1, e2, ho]
/-- A fact is told in other words: what it owns stays, what tokens it has are told. -/
theorem SH.retell {f f' : Fact} {i : Nat} (h : SH A w0 w Γ) (hi : Γ[i]? = some f) (ho : f'.owns = f.owns) (hf : f.holds (fun k => A k ∨ k ∈ Γ.owns) w0.heap.size w → f'.holds (fun k => A k ∨ k ∈ Γ.owns) w0.heap.size w)
    (htn : (Ctx.toks (Γ.set i f')).Nodup) (htg : ∀ b ∈ f'.toks, w0.heap.size ≤ b) : SH A w0 w (Γ.set i f') := by
  have hoo := owns_set_eq (f' := f') hi ho
  refine h.setT hi (Grow.refl w _) ?_ ?_ ?_ htn htg
  · rw [ho]; exact nodup_at h.nd hi
  · intro b hb
    rw [ho] at hb
    exact ⟨.inl hb, (h.ge b (List.mem_flatMap.2 ⟨f, List.mem_of_getElem? hi, hb⟩)).2⟩
  · rw [hoo]
    exact hf (h.get i hi)
theorem toks_less {f f' : Fact} {i : Nat} (hi : Γ[i]? = some f) (hf : f'.toks = []) (h : Γ.toks.Nodup) : (Ctx.toks (Γ.set i f')).Nodup := by
  obtain ⟨m1, m2, t1, t2⟩ := toks_set (f' := f') hi
  rw [t1] at h
  rw [t2, hf]
  exact nodup_mid h
theorem SH.od_down {α : Type} [Rep α] {e : TypeId} {v : Value} {xs : List α} {B : List Nat} (h : SH A w0 w Γ) (i : Nat) (hi : Γ[i]? = some (.od e v xs B)) :
    ∃ ts : List (Tk α), dats ts = xs ∧ (tks ts).Nodup ∧ (∀ b ∈ tks ts, b ∈ B) ∧ SH A w0 w (Γ.set i (.ow e v ts)) := by
  obtain ⟨⟨cells, B0, h1, h2, h4, h5⟩, h3⟩ := h.get i hi
  obtain ⟨ts, e1, e2, h6⟩ := DL.tk (A := fun k => A k ∨ k ∈ Γ.owns) _ _ _ h2 fun b hb => (h3 b (h5 b hb)).2
  refine ⟨ts, e1, by rw [e2]; exact h4, by rw [e2]; exact h5, h.retell hi rfl (fun _ => ⟨cells, ?_, h6⟩) (toks_less hi rfl h.tnd) (by simp [Fact.toks])⟩
  have : ts.length = xs.length := by rw [← e1, dats_length]
  rw [this]; exact h1
theorem SH.od_up {α : Type} [Rep α] {e : TypeId} {v : Value} {ts : List (Tk α)} {B : List Nat} (h : SH A w0 w Γ) (i : Nat) (hi : Γ[i]? = some (.ow e v ts)) (htk : (tks ts).Nodup) (hsub : ∀ b ∈ tks ts, b ∈ B)
    (hB : ∀ b ∈ B, w0.heap.size ≤ b ∧ b < w.heap.size ∧ b ∉ Γ.owns) (hnd : (B ++ Γ.toks).Nodup) : SH A w0 w (Γ.set i (.od e v (dats ts) B)) := by
  refine h.retell hi rfl ?_ ?_ (fun b hb => (hB b hb).1)
  · rintro ⟨cells, h1, h2⟩
    obtain ⟨h3, h4⟩ := RdL.untk _ _ h2
    refine ⟨⟨cells, tks ts, by rw [dats_length]; exact h1, h3, htk, hsub⟩, fun b hb => ⟨(hB b hb).2.1, ?_⟩⟩
    rintro (hk | hk)
    · have := h.av b hk
      have := (hB b hb).1
      omega
    · exact (hB b hb).2.2 hk
  · refine (toks_perm hi).nodup_iff.2 ?_
    refine ((toks_perm0 hi).append_left B).nodup_iff.1 hnd |>.sublist ?_
    exact List.Sublist.append (List.Sublist.refl _) (List.sublist_append_right _ _)
/-- The tokens are left. -/
theorem SH.od_ow {α : Type} [Rep α] {e : TypeId} {v : Value} {xs : List α} {B : List Nat} (h : SH A w0 w Γ) (i : Nat) (hi : Γ[i]? = some (.od e v xs B)) : SH A w0 w (Γ.set i (.ow e v xs)) := by
  obtain ⟨⟨cells, B0, h1, h2, h4, h5⟩, h3⟩ := h.get i hi
  exact h.retell hi rfl (fun _ => ⟨cells, h1, DL.rd _ _ _ h2 fun b hb => (h3 b (h5 b hb)).2⟩) (toks_less hi rfl h.tnd) (by simp [Fact.toks])

/-- A datum without rows. -/
def Nb {α : Type} [Rep α] (x : α) : Prop := ∀ A w cs, Rep.rdc A w cs x → Rep.dc w cs x []
theorem nb_flat {α : Type} [Rep α] (hf : Rep.flat α = true) (x : α) : Nb x := fun _ _ _ h => Rep.flt hf h
theorem RdL.nb {α : Type} [Rep α] {A : Nat → Prop} {w : World} : ∀ (xs : List α) (cs : List Value), (∀ x ∈ xs, Nb x) → RdL A w cs xs → DL w cs xs []
  | [], _, _, h => ⟨h, rfl⟩
  | x :: r, _, hn, ⟨c1, c2, e, h1, h2⟩ => ⟨c1, c2, [], [], e, rfl, hn x (by simp) _ _ _ h1, RdL.nb r c2 (fun y hy => hn y (by simp [hy])) h2⟩
theorem SH.ow_od {α : Type} [Rep α] {e : TypeId} {v : Value} {xs : List α} (h : SH A w0 w Γ) (i : Nat) (hi : Γ[i]? = some (.ow e v xs)) (hn : ∀ x ∈ xs, Nb x) : SH A w0 w (Γ.set i (.od e v xs [])) := by
  refine h.retell hi rfl ?_ (toks_less hi rfl h.tnd) (by simp [Fact.toks])
  rintro ⟨cells, h1, h2⟩
  exact ⟨⟨cells, [], h1, RdL.nb _ _ hn h2, by simp, by simp⟩, by simp⟩
theorem SH.ow_od_flat {α : Type} [Rep α] {e : TypeId} {v : Value} {xs : List α} (h : SH A w0 w Γ) (i : Nat) (hi : Γ[i]? = some (.ow e v xs)) (hf : Rep.flat α = true) : SH A w0 w (Γ.set i (.od e v xs [])) := h.ow_od i hi fun x _ => nb_flat hf x
theorem SH.od_nil {α : Type} [Rep α] (e : TypeId) (h : SH A w0 w Γ) : SH A w0 w (.od e (.slice none 0 0) ([] : List α) [] :: Γ) := (SH.ow_nil (α := α) e h).ow_od 0 rfl (by simp)

theorem OwD.dn {α : Type} [Rep α] {e : TypeId} {v : Value} {xs : List α} {B : List Nat} (h : OwD w e v xs B) (hb : ∀ b ∈ v.ownBlock.toList, b ∉ B) : Dn w v xs (v.ownBlock.toList ++ B) := by
  obtain ⟨cells, B0, ⟨hl, hown⟩, h2, h3, h4⟩ := h
  rcases hown with ⟨rfl, h0⟩ | ⟨g, cap, cur, rfl, _, hg, hnc, hcm, hcs, htake⟩
  · have hx : xs = [] := List.eq_nil_of_length_eq_zero h0
    subst hx
    exact ⟨[], ⟨[_], rfl, _, rfl, .inl ⟨rfl, rfl, none, 0, rfl, fun _ => rfl, Nat.zero_le _⟩⟩, by simp, by simp⟩
  · refine ⟨g :: B0, ⟨[_], rfl, _, rfl, .inr ⟨g, 0, cap, cells, B0, cur, e, rfl, hg, hnc, hcm, fun j u hj => ?_, h2, rfl⟩⟩, ?_, ?_⟩
    · rw [← htake, List.getElem?_take] at hj
      split at hj
      · simpa [World.cell?, hg] using hj
      · simp at hj
    · refine List.nodup_cons.2 ⟨fun hm => hb g (by simp [Value.ownBlock]) (h4 g hm), h3⟩
    · intro b hb'
      simp only [Value.ownBlock, Option.toList_some, List.cons_append, List.nil_append, List.mem_cons] at hb' ⊢
      exact hb'.imp id (h4 b)
/-- From now on it is only read, and its tokens are kept beside it. -/
theorem SH.tok {α : Type} [Rep α] {e : TypeId} {v : Value} {xs : List α} {B : List Nat} (h : SH A w0 w Γ) (i : Nat) (hi : Γ[i]? = some (.od e v xs B)) : SH A w0 w (.tkn v xs (v.ownBlock.toList ++ B) :: Γ.set i (.rd v xs)) := by
  have hlt := (List.getElem?_eq_some_iff.1 hi).1
  have h1 := h.od_ow i hi
  have h2 := h1.freeze i (get_set hlt)
  rw [List.set_set] at h2
  obtain ⟨hod, hB⟩ := h.get i hi
  have hown : ∀ b ∈ v.ownBlock.toList, b ∈ Γ.owns := fun b hb => List.mem_flatMap.2 ⟨_, List.mem_of_getElem? hi, hb⟩
  have hnB : ∀ b ∈ v.ownBlock.toList, b ∉ B := fun b hb hm => (hB b hm).2 (.inr (hown b hb))
  have hsub : ∀ b, b ∈ Ctx.owns (Γ.set i (.rd v xs)) → b ∈ Γ.owns := fun b hb => by
    have := freeze_owns (Γ := Γ.set i (.ow e v xs)) (e := e) (v := v) (xs := xs) (i := i) (get_set hlt) b (by rw [List.set_set]; exact hb)
    rwa [owns_set_eq (f' := .ow e v xs) hi rfl] at this
  have hnd0 : ∀ b ∈ v.ownBlock.toList, b ∉ Ctx.owns (Γ.set i (.rd v xs)) := by
    obtain ⟨l1, l2, e1, e2⟩ := owns_set (f' := .rd v xs) hi
    have hn := h.nd
    rw [e1] at hn
    simp only [Fact.owns, List.append_assoc, List.nodup_append] at hn
    intro b hb hm
    rw [e2] at hm
    simp only [Fact.owns, List.append_nil, List.mem_append] at hm
    rcases hm with hm | hm
    · exact hn.2.2 b hm b (by simp [hb]) rfl
    · exact hn.2.1.2.2 b hb b hm rfl
  refine h2.consT (Grow.refl w []) (by simp [Fact.owns]) (by simp [Fact.owns]) ⟨hod.dn hnB, fun b hb => ?_⟩ ?_ ?_
  · have ho : Ctx.owns (Fact.tkn v xs (v.ownBlock.toList ++ B) :: Γ.set i (.rd v xs)) = Ctx.owns (Γ.set i (.rd v xs)) := by simp [Ctx.owns, Fact.owns]
    rw [ho]
    rcases List.mem_append.1 hb with hb | hb
    · refine ⟨(h.ge b (hown b hb)).2, ?_⟩
      rintro (hk | hk)
      · have := h.av b hk
        have := (h.ge b (hown b hb)).1
        omega
      · exact hnd0 b hb hk
    · exact ⟨(hB b hb).1, fun hk => (hB b hb).2 (hk.imp id (hsub b))⟩
  · show ((v.ownBlock.toList ++ B) ++ Ctx.toks (Γ.set i (.rd v xs))).Nodup
    have hp := toks_perm0 hi
    have hpt : Ctx.toks (Γ.set i (.rd v xs)) = Ctx.toks (Γ.set i (.pr True)) := by
      obtain ⟨m1, m2, t1, t2⟩ := toks_set (f' := .rd v xs) hi
      have hq := toks_perm (f' := .rd v xs) hi
      obtain ⟨k1, k2, s1, s2⟩ := toks_set (Γ := Γ.set i (.rd v xs)) (f := .rd v xs) (f' := .pr True) (i := i) (get_set hlt)
      rw [List.set_set] at s2
      rw [s1, s2]; rfl
    rw [hpt, List.append_assoc, List.nodup_append]
    have hn := hp.nodup_iff.1 h.tnd
    refine ⟨?_, hn, ?_⟩
    · cases v.ownBlock <;> simp
    · rintro a ha b hb rfl
      have : a ∈ Γ.toks := hp.mem_iff.2 hb
      exact (h.tlt a this).2 (hown a ha)
  · intro b hb
    simp only [Fact.toks, List.mem_append] at hb
    rcases hb with hb | hb
    · exact (h.ge b (hown b hb)).1
    · exact h.tge b (List.mem_flatMap.2 ⟨_, List.mem_of_getElem? hi, hb⟩)
theorem SH.tokf {α : Type} [Rep α] {e : TypeId} {v : Value} {xs : List α} (h : SH A w0 w Γ) (i : Nat) (hi : Γ[i]? = some (.ow e v xs)) (hf : Rep.flat α = true) : SH A w0 w (.tkn v xs (v.ownBlock.toList ++ []) :: Γ.set i (.rd v xs)) := by
  have h1 := h.ow_od_flat i hi hf
  have hlt := (List.getElem?_eq_some_iff.1 hi).1
  have := h1.tok i (get_set hlt)
  rwa [List.set_set] at this
theorem tokf_owns {α : Type} [Rep α] {e : TypeId} {v : Value} {xs : List α} {i : Nat} (hi : Γ[i]? = some (.ow e v xs)) : ∀ b ∈ Ctx.owns (Fact.tkn v xs (v.ownBlock.toList ++ []) :: Γ.set i (.rd v xs)), b ∈ Γ.owns := fun b hb => by
  have hb : b ∈ Ctx.owns (Γ.set i (.rd v xs)) := by simpa [Ctx.owns, Fact.owns] using hb
  exact freeze_owns hi b hb
theorem Dn.rd {α : Type} [Rep α] {v : Value} {x : α} {B : List Nat} (h : Dn w v x B) (hA : ∀ b ∈ B, ¬ A b) : Rd A w v x := by
  obtain ⟨B0, h1, _, h2⟩ := h
  exact h1.rd fun b hb => hA b (h2 b hb)
theorem SH.tkn_rd {α : Type} [Rep α] {v : Value} {x : α} {B : List Nat} (h : SH A w0 w Γ) (i : Nat) (hi : Γ[i]? = some (.tkn v x B)) : SH A w0 w (.rd v x :: Γ) := by
  obtain ⟨h1, h2⟩ := h.get i hi
  exact h.cons_rd (h1.rd fun b hb => (h2 b hb).2)
theorem SH.od0 {α : Type} [Rep α] {e : TypeId} {v : Value} {xs : List α} {B : List Nat} (h : SH A w0 w Γ) (i : Nat) (hi : Γ[i]? = some (.od e v xs B)) : Rd nowhere w v xs :=
  (h.od_ow i hi).ow0 i (get_set (List.getElem?_eq_some_iff.1 hi).1)

/-! ### What is handed out in full -/
def Fact.robust : Fact → Bool
  | @Fact.ow α inst _ _ _ => @Rep.flat α inst
  | @Fact.od _ _ _ _ _ _ => true
  | @Fact.tkn _ _ _ _ _ => true
  | .bx _ _ _ => true
  | .pr _ => true
  | .inv _ _ => true
  | _ => false
theorem Fact.robust_frame {A A' : Nat → Prop} {n : Nat} {f : Fact} (hr : f.robust = true) (h : f.holds A n w) (hb : ∀ b ∈ f.owns, w'.heap[b]? = w.heap[b]?) (ht : ∀ b ∈ f.toks, w'.heap[b]? = w.heap[b]? ∧ ¬ A' b) : f.holds A' n w' := by
  cases f with
  | ow e v xs =>
    obtain ⟨cells, h1, h2⟩ := h
    exact ⟨cells, ownsRow_frame h1 hb, DL.rd _ _ _ (DL.frame _ _ _ (DL.flat hr _ _ h2) (by simp)) (by simp)⟩
  | od e v xs B =>
    obtain ⟨⟨cells, B0, h1, h2, h3, h4⟩, h5⟩ := h
    exact ⟨⟨cells, B0, ownsRow_frame h1 hb, DL.frame _ _ _ h2 fun b hb => (ht b (h4 b hb)).1, h3, h4⟩, fun b hb => ⟨lt_of_heap (ht b hb).1 (h5 b hb).1, (ht b hb).2⟩⟩
  | tkn v x B =>
    obtain ⟨⟨B0, h1, h3, h4⟩, h5⟩ := h
    exact ⟨⟨B0, h1.frame fun b hb => (ht b (h4 b hb)).1, h3, h4⟩, fun b hb => ⟨lt_of_heap (ht b hb).1 (h5 b hb).1, (ht b hb).2⟩⟩
  | bx b t cs =>
    have := hb b (by simp [Fact.owns])
    simp only [Fact.holds] at h ⊢
    rw [this, h]
  | pr p => exact h
  | inv B I => exact fun w2 hw2 => h w2 fun b hb' => (hw2 b hb').trans (hb b hb')
  | _ => simp [Fact.robust] at hr
/-- What a callee leaves, joined to what the caller has: it lies apart from all that the caller has. -/
theorem SH.join_self {Δ : Ctx} (h : SH A w0 w Γ) (k : SH nowhere w w' Δ) (hp : Δ.all Fact.robust = true) : SH A w0 w' (Δ ++ Γ) := by
  have ho : Ctx.owns (Δ ++ Γ) = Δ.owns ++ Γ.owns := by simp [Ctx.owns]
  have ht : Ctx.toks (Δ ++ Γ) = Δ.toks ++ Γ.toks := by simp [Ctx.toks]
  have hg : Grow w w' [] := Grow.of_below k.below []
  have h2 := h.grow hg
  refine ⟨h2.below, h.av, ?_, ?_, ?_, ?_, ?_⟩
  · rw [ho, List.nodup_append]
    refine ⟨k.nd, h.nd, fun a ha b hb e => ?_⟩
    subst e
    have h1 := (k.ge a ha).1
    have h3 := (h.ge a hb).2
    omega
  · intro b hb
    rw [ho] at hb
    rcases List.mem_append.1 hb with hb | hb
    · exact ⟨Nat.le_trans h.lt (k.ge b hb).1, (k.ge b hb).2⟩
    · exact h2.ge b hb
  · rw [ht, List.nodup_append]
    refine ⟨k.tnd, h.tnd, fun a ha b hb e => ?_⟩
    subst e
    have h1 := k.tge a ha
    have h3 := (h.tlt a hb).1
    omega
  · intro b hb
    rw [ht] at hb
    rcases List.mem_append.1 hb with hb | hb
    · exact Nat.le_trans h.lt (k.tge b hb)
    · exact h.tge b hb
  · intro f hf
    rcases List.mem_append.1 hf with hf | hf
    · have hk := k.all f hf
      have hr := List.all_eq_true.1 hp f hf
      refine (?_ : f.holds (fun k => A k ∨ k ∈ Ctx.owns (Δ ++ Γ)) w0.heap.size w')
      have hk' : f.holds (fun k => A k ∨ k ∈ Ctx.owns (Δ ++ Γ)) w.heap.size w' := by
        refine Fact.robust_frame hr hk (fun _ _ => rfl) fun b hb => ⟨rfl, ?_⟩
        have hbt : b ∈ Δ.toks := List.mem_flatMap.2 ⟨f, hf, hb⟩
        have h1 := k.tge b hbt
        rintro (hA | hO)
        · have := h.av b hA
          have := h.lt
          omega
        · rw [ho] at hO
          rcases List.mem_append.1 hO with hO | hO
          · exact (k.tlt b hbt).2 hO
          · have := (h.ge b hO).2; omega
      cases f with
      | pa p x => simp [Fact.robust] at hr
      | _ => exact hk'
    · refine Fact.frame hg.size (h.all f hf) (fun b hb => hg.block b (h.ge b (List.mem_flatMap.2 ⟨f, hf, hb⟩)).2 (by simp)) (fun j hj => hg.block j (Nat.lt_of_lt_of_le hj h.lt) (by simp)) (fun j hj ha => ⟨hg.block j hj (by simp), ?_⟩)
      rintro (hj' | hj')
      · exact ha (.inl hj')
      · rw [ho] at hj'
        rcases List.mem_append.1 hj' with hj' | hj'
        · have := (k.ge j hj').1; omega
        · exact ha (.inr hj')
end
end Go.Tc
namespace Go.Tc
open Go Go.RowKit

/-- What a value with tokens is: B are the tokens at hand, C those that are left. -/
def Dw {α : Type} [Rep α] (w : World) (v : Value) (x : α) (B C : List Nat) : Prop := B.Nodup → ∃ B0, Dc w v x B0 ∧ B0.Nodup ∧ (∀ b ∈ B0, b ∈ B ∧ b ∉ C) ∧ C.Sublist B
theorem dn_nil {α : Type} [Rep α] {w : World} {B : List Nat} : Dn w (.slice none 0 0) ([] : List α) B := ⟨[], ⟨[_], rfl, _, rfl, .inl ⟨rfl, rfl, none, 0, rfl, fun _ => rfl, Nat.zero_le _⟩⟩, by simp, by simp⟩
theorem Dc.cell {α : Type} [Rep α] {w : World} {v : Value} {x : α} {B : List Nat} (h : Dc w v x B) (ha : Rep.agg α = false) : Rep.dc w [v] x B := by
  obtain ⟨cs, rfl, hr⟩ := h
  have hl := Rep.len (Rep.dcr (A := nowhere) hr fun _ _ hk => hk)
  rw [Rep.single ha] at hl
  match cs, hl with
  | [c], _ => simpa [Rep.val, ha] using hr
/-- Two parts, one behind the other. -/
theorem Dw.two {α β : Type} [Rep α] [Rep β] {w : World} {v u : Value} {x : α} {y : β} {B C D : List Nat} (h : Dw w v x B C) (k : Dw w u y C D) (hn : B.Nodup) :
    ∃ B1 B2, Dc w v x B1 ∧ Dc w u y B2 ∧ (B1 ++ B2).Nodup ∧ (∀ b ∈ B1 ++ B2, b ∈ B ∧ b ∉ D) ∧ D.Sublist B := by
  obtain ⟨B1, h1, h2, h3, h4⟩ := h hn
  obtain ⟨B2, k1, k2, k3, k4⟩ := k (hn.sublist h4)
  refine ⟨B1, B2, h1, k1, ?_, ?_, k4.trans h4⟩
  · rw [List.nodup_append]
    exact ⟨h2, k2, fun a ha b hb e => (h3 a ha).2 (e ▸ (k3 b hb).1)⟩
  · intro b hb
    rcases List.mem_append.1 hb with hb | hb
    · exact ⟨(h3 b hb).1, fun hd => (h3 b hb).2 (k4.subset hd)⟩
    · exact ⟨h4.subset (k3 b hb).1, (k3 b hb).2⟩
theorem Dw.three {α β γ : Type} [Rep α] [Rep β] [Rep γ] {w : World} {v u t : Value} {x : α} {y : β} {z : γ} {B C D F : List Nat} (h : Dw w v x B C) (k : Dw w u y C D) (l : Dw w t z D F) (hn : B.Nodup) :
    ∃ B1 B2 B3, Dc w v x B1 ∧ Dc w u y B2 ∧ Dc w t z B3 ∧ (B1 ++ B2 ++ B3).Nodup ∧ (∀ b ∈ B1 ++ B2 ++ B3, b ∈ B ∧ b ∉ F) ∧ F.Sublist B := by
  obtain ⟨B1, B2, h1, h2, h3, h4, h5⟩ := h.two k hn
  obtain ⟨B3, l1, l2, l3, l4⟩ := l (hn.sublist h5)
  refine ⟨B1, B2, B3, h1, h2, l1, ?_, ?_, l4.trans h5⟩
  · rw [List.nodup_append]
    exact ⟨h3, l2, fun a ha b hb e => (h4 a ha).2 (e ▸ (l3 b hb).1)⟩
  · intro b hb
    rcases List.mem_append.1 hb with hb | hb
    · exact ⟨(h4 b hb).1, fun hd => (h4 b hb).2 (l4.subset hd)⟩
    · exact ⟨h5.subset (l3 b hb).1, (l3 b hb).2⟩
/-- Values of a literal, with tokens. -/
def DwV {α : Type} [Rep α] (w : World) : List Value → List α → List Nat → Prop
  | [], [], _ => True
  | v :: vs, x :: xs, B => ∃ C, Dw w v x B C ∧ DwV w vs xs C
  | _, _, _ => False
theorem dwv_cons {α : Type} [Rep α] {w : World} {v : Value} {x : α} {vs : List Value} {xs : List α} {B C : List Nat} (h : Dw w v x B C) (k : DwV w vs xs C) : DwV w (v :: vs) (x :: xs) B := ⟨C, h, k⟩
theorem dwv_nil {α : Type} [Rep α] {w : World} : DwV w [] ([] : List α) [] := trivial
theorem DwV.tk {α : Type} [Rep α] {A : Nat → Prop} {w : World} : ∀ (vs : List Value) (xs : List α) (B : List Nat), DwV w vs xs B → B.Nodup → (∀ b ∈ B, ¬ A b) → ∃ ts : List (Tk α), dats ts = xs ∧ (tks ts).Nodup ∧ (∀ b ∈ tks ts, b ∈ B) ∧ RdV A w vs ts
  | [], [], _, _, _, _ => ⟨[], rfl, by simp [tks], by simp [tks], trivial⟩
  | v :: vs, x :: xs, B, ⟨C, h, k⟩, hn, hA => by
    obtain ⟨B0, ⟨cs, e1, h1⟩, h2, h3, h4⟩ := h hn
    obtain ⟨ts, e2, e3, e4, e5⟩ := DwV.tk (A := A) vs xs C k (hn.sublist h4) fun b hb => hA b (h4.subset hb)
    refine ⟨⟨x, B0⟩ :: ts, by simp [dats] at e2 ⊢; exact e2, ?_, ?_, ⟨cs, e1, h1, fun b hb => hA b (h3 b hb).1⟩, e5⟩
    · simp only [tks, List.flatMap_cons, List.nodup_append]
      exact ⟨h2, e3, fun a ha b hb e => (h3 a ha).2 (e ▸ e4 b hb)⟩
    · intro b hb
      simp only [tks, List.flatMap_cons, List.mem_append] at hb
      exact hb.elim (fun hb => (h3 b hb).1) (fun hb => h4.subset (e4 b hb))
  | [], _ :: _, _, h, _, _ => h.elim
  | _ :: _, [], _, h, _, _ => h.elim

section
variable {R : Type} {P : Program} {n : Fr} {A : Nat → Prop} {w0 w w' : World} {Q : R → Exit → Act → World → Prop} {ρ ρ' : Env} {Γ Γ' : Ctx} {E : Option R}
variable {d : Option Nat} {ty : TypeId} {pos : String} {after : Array Edge} {g : Option (Nat × Bool)}

theorem SH.dw {α : Type} [Rep α] {v : Value} {x : α} {B C : List Nat} (h : SH A w0 w Γ) (i : Nat) (hi : Γ[i]? = some (.tkn v x B)) : Dw w v x (B ++ C) C := fun hn => by
  obtain ⟨B0, h1, h2, h3⟩ := (h.get i hi).1
  rw [List.nodup_append] at hn
  exact ⟨B0, h1, h2, fun b hb => ⟨by simp [h3 b hb], fun hc => hn.2.2 b (h3 b hb) b hc rfl⟩, List.sublist_append_right _ _⟩
/-- What tokens are spent: they are fresh, not owned, and different from those that are left. -/
theorem SH.spent (h : SH A w0 w Γ) {js : List Nat} {B : List Nat} (hB : (Tc.sel js Γ).toks = B) : ∀ b ∈ B, w0.heap.size ≤ b ∧ b < w.heap.size ∧ b ∉ Γ.owns := fun b hb => by
  have hb' : b ∈ Γ.toks := sel_toks js Γ b (by rw [hB]; exact hb)
  exact ⟨h.tge b hb', h.tlt b hb'⟩
theorem SH.spent_av (h : SH A w0 w Γ) {B : List Nat} (hB : ∀ b ∈ B, w0.heap.size ≤ b ∧ b < w.heap.size ∧ b ∉ Γ.owns) : ∀ b ∈ B, ¬ (A b ∨ b ∈ Γ.owns) := fun b hb hk => by
  obtain ⟨h1, _, h3⟩ := hB b hb
  rcases hk with hk | hk
  · have := h.av b hk; omega
  · exact h3 hk
/-- A slice literal whose parts have tokens (js): these are spent. -/
theorem st_buildSlice_od {α : Type} [Rep α] {t e : TypeId} {len : Nat} {ag : Bool} {z : Value} {parts : List (Nat × Operand)} {vs : List Value} {B : List Nat} (xs : List α) (js : List Nat) (ht : P.underlying t = some (.slice e)) (he : tinf P e = some (Rep.sz α, ag)) (hz : zinf P e = some z)
    (hparts : evP ρ parts = some (enumP 0 vs)) (hlen : xs.length = len) (hmax : Nat.ble (len * Rep.sz α) 16777216 = true) (hn : ndup js = true) (hB : (sel js Γ).toks = B) (hx : ∀ w, SH A w0 w Γ → DwV w vs xs B) :
    St P n A w0 ρ Γ ⟨d, .buildSlice t len parts.toArray, ty, pos, after, g⟩ (fun b : Nat => .slice (some ⟨b, 0, none⟩) len len) (fun b => .od e (.slice (some ⟨b, 0, none⟩) len len) xs B :: kill js Γ) [] := by
  intro a w hs hh
  have hsp := hh.spent hB
  have hp := kill_toks js Γ hn
  have hnB : B.Nodup := by
    have := hp.nodup_iff.1 hh.tnd
    rw [hB, List.nodup_append] at this
    exact this.1
  obtain ⟨ts, e1, e2, e3, e4⟩ := DwV.tk vs xs B (hx w hh) hnB (hh.spent_av hsp)
  have hl : ts.length = len := by rw [← hlen, ← e1, dats_length]
  have hh2 := hh.kill js
  have e4' : RdV (fun k => A k ∨ k ∈ (kill js Γ).owns) w vs ts := by
    have : ∀ (vs : List Value) (ts : List (Tk α)), RdV (fun k => A k ∨ k ∈ Γ.owns) w vs ts → RdV (fun k => A k ∨ k ∈ (kill js Γ).owns) w vs ts := by
      intro vs
      induction vs with
      | nil => intro ts h; cases ts <;> exact h
      | cons v vs ih =>
        intro ts h
        cases ts with
        | nil => exact h
        | cons t ts => exact ⟨Rd.weak h.1 fun k hk => hk.imp id (owns_kill js), ih ts h.2⟩
    exact this vs ts e4
  obtain ⟨b, w', hrun, h1, h2, h3⟩ := at_buildSlice (d := d) (ty := ty) (pos := pos) (after := after) (g := g) ts ht he hz hparts hl hmax e4' a hs hh2
  have hsub : ∀ c, c ∈ Ctx.owns (.ow e (.slice (some ⟨b, 0, none⟩) len len) ts :: kill js Γ) → c ∈ Γ.owns ∨ w.heap.size ≤ c := fun c hc => (h3 c hc).imp (owns_kill js) id
  refine ⟨b, w', hrun, ?_, h2, ?_⟩
  · have := h1.od_up (B := B) 0 rfl e2 e3 (fun c hc => ⟨(hsp c hc).1, Nat.lt_of_lt_of_le (hsp c hc).2.1 h2.size, fun hm => ?_⟩) ?_
    · rw [e1] at this
      exact this
    · rcases hsub c hm with hm | hm
      · exact (hsp c hc).2.2 hm
      · have := (hsp c hc).2.1; omega
    · rw [hB] at hp
      exact hp.nodup_iff.1 hh.tnd
  · intro c hc
    exact hsub c (by simpa [Ctx.owns, Fact.owns] using hc)
/-- append of a row with tokens (at j) to a row with tokens (at i). -/
theorem st_append_od {α : Type} [Rep α] {x y : Operand} {t e : TypeId} {ag : Bool} {z : Value} {bytes : Nat} {v u : Value} {xs ys zs : List α} {B1 B2 : List Nat} (i j : Nat) (ht : P.underlying t = some (.slice e)) (he : tinf P e = some (Rep.sz α, ag)) (hz : zinf P e = some z) (hzs : z.cells.size = Rep.sz α) (hb : binf P e = some bytes) (hby : Nat.ble bytes 128 = true)
    (hx : ev ρ x = some v) (hy : ev ρ y = some u) (hi : Γ[i]? = some (.od e v xs B1)) (hj : Γ[j]? = some (.od e u ys B2)) (hij : Nat.beq j i = false) (ha : app xs ys = some zs) :
    St P n A w0 ρ Γ ⟨d, .call ⟨.builtin .append, #[x, y], #[t, t]⟩, ty, pos, after, g⟩ (fun v' : Value => v') (fun v' => (Γ.set i (.od e v' zs (B1 ++ B2))).set j (.pr True)) v.ownBlock.toList := by
  intro a w hs hh
  have hne : j ≠ i := fun e => by subst e; simp at hij
  have hli := (List.getElem?_eq_some_iff.1 hi).1
  obtain ⟨ts, e1, e2, e3, h1⟩ := hh.od_down i hi
  obtain ⟨us, f1, f2, f3, h2⟩ := hh.od_down j hj
  have hso : Src (fun k => A k ∨ k ∈ Ctx.owns (Γ.set i (.ow e v ts))) w u us := by
    have hg := h2.get j (get_set (List.getElem?_eq_some_iff.1 hj).1)
    have ho : Ctx.owns (Γ.set j (.ow e u us)) = Γ.owns := owns_set_eq hj rfl
    have ho' : Ctx.owns (Γ.set i (.ow e v ts)) = Γ.owns := owns_set_eq hi rfl
    rw [ho'] 
    rw [ho] at hg
    exact Ow.src hg
  obtain ⟨rfl, hlim⟩ := app_eq ha
  have ha' : app ts us = some (ts ++ us) := by
    have l1 : ts.length = xs.length := by rw [← e1, dats_length]
    have l2 : us.length = ys.length := by rw [← f1, dats_length]
    unfold app
    rw [if_pos (by rw [l1, l2]; exact hlim)]
  obtain ⟨v', w', hrun, h3, h4, h5⟩ := SH.append (P := P) (ty := ty) i h1 (get_set hli) hso ht he hz hzs hb hby ha'
  rw [List.set_set] at h3 h5
  have hoi : Ctx.owns (Γ.set i (.ow e v ts)) = Γ.owns := owns_set_eq hi rfl
  have hsub : ∀ c, c ∈ Ctx.owns (Γ.set i (.ow e v' (ts ++ us))) → c ∈ Γ.owns ∨ w.heap.size ≤ c := fun c hc => by
    have := h5 c hc
    rwa [hoi] at this
  have hjj : (Γ.set i (.ow e v' (ts ++ us)))[j]? = some (.od e u ys B2) := by rw [List.getElem?_set_ne (Ne.symm hne)]; exact hj
  have h6 := h3.dead hjj
  have hii : ((Γ.set i (.ow e v' (ts ++ us))).set j (.pr True))[i]? = some (.ow e v' (ts ++ us)) := by
    rw [List.getElem?_set_ne hne]
    exact get_set hli
  have hbnd : ∀ c ∈ B1 ++ B2, c ∈ Γ.toks := fun c hc => by
    rcases List.mem_append.1 hc with hc | hc
    · exact List.mem_flatMap.2 ⟨_, List.mem_of_getElem? hi, hc⟩
    · exact List.mem_flatMap.2 ⟨_, List.mem_of_getElem? hj, hc⟩
  have h7 := h6.od_up (B := B1 ++ B2) i hii ?_ ?_ ?_ ?_
  · have ed : dats (ts ++ us) = xs ++ ys := by rw [← e1, ← f1]; simp [dats]
    rw [ed, List.set_comm _ _ hne, List.set_set] at h7
    refine ⟨v', w', ?_, h7, h4, fun c hc => ?_⟩
    · simp [execOp, resolve, invoke, builtin, hs.eval hx, hs.eval hy, hrun]
    · have hc := owns_dead hc
      have : Ctx.owns (Γ.set i (.od e v' (xs ++ ys) (B1 ++ B2))) = Ctx.owns (Γ.set i (.ow e v' (ts ++ us))) := by
        have := owns_set_eq (Γ := Γ.set i (.ow e v' (ts ++ us))) (f' := .od e v' (xs ++ ys) (B1 ++ B2)) (get_set hli) rfl
        rwa [List.set_set] at this
      rw [this] at hc
      exact hsub c hc
  · simp only [tks, List.flatMap_append, List.nodup_append]
    refine ⟨e2, f2, fun a ha b hb hab => ?_⟩
    subst hab
    exact nodup_twoG (g := Fact.toks) hh.tnd hi hj (Ne.symm hne) (e3 a ha) (f3 a hb)
  · intro c hc
    simp only [tks, List.flatMap_append, List.mem_append] at hc ⊢
    exact hc.imp (e3 c) (f3 c)
  · intro c hc
    have hc' := hbnd c hc
    refine ⟨hh.tge c hc', Nat.lt_of_lt_of_le (hh.tlt c hc').1 h4.size, fun hm => ?_⟩
    rcases hsub c (owns_dead hm) with hm | hm
    · exact (hh.tlt c hc').2 hm
    · have := (hh.tlt c hc').1; omega
  · have p1 := toks_perm0 hi
    have hj2 : (Γ.set i (.pr True))[j]? = some (.od e u ys B2) := by rw [List.getElem?_set_ne (Ne.symm hne)]; exact hj
    have p2 := toks_perm0 hj2
    have p3 := p1.trans (p2.append_left B1)
    have p4 := toks_perm0 hii
    simp only [Fact.toks, List.nil_append] at p4
    have e5 : (((Γ.set i (.ow e v' (ts ++ us))).set j (.pr True)).set i (.pr True)) = (Γ.set i (.pr True)).set j (.pr True) := by
      rw [List.set_comm _ _ hne, List.set_set]
    rw [e5] at p4
    have p5 := p4.append_left (B1 ++ B2)
    rw [List.append_assoc B1 B2 (Ctx.toks ((Γ.set i (.pr True)).set j (.pr True)))] at p5
    exact p5.nodup_iff.2 (p3.nodup_iff.1 hh.tnd)
theorem ex_od {α : Type} [Rep α] {o : Oper} {u : Value} {e : TypeId} {v : Value} {xs : List α} {B : List Nat} (i : Nat) (hi : Γ[i]? = some (.od e v xs B)) (h : Ex P n A w0 ρ (Γ.set i (.ow e v xs)) o u) : Ex P n A w0 ρ Γ o u :=
  fun a w hs hh => h a w hs (hh.od_ow i hi)
theorem st_od {α : Type} [Rep α] {o : Oper} {e : TypeId} {v : Value} {xs : List α} {B : List Nat} {G : Type} {val : G → Value} {fs : G → Ctx} (i : Nat) (hi : Γ[i]? = some (.od e v xs B))
    (h : St P n A w0 ρ (Γ.set i (.ow e v xs)) o val (fun x => fs x ++ Γ.set i (.ow e v xs)) []) (hfs : ∀ x, (fs x).all (fun f => f.owns.isEmpty && f.toks.isEmpty) = true) : St P n A w0 ρ Γ o val (fun x => fs x ++ Γ) [] := by
  intro a w hs hh
  obtain ⟨x, w', h1, h2, h3, _⟩ := h a w hs (hh.od_ow i hi)
  have hem : ∀ f ∈ fs x, f.owns = [] ∧ f.toks = [] := fun f hf => by
    have := List.all_eq_true.1 (hfs x) f hf
    simpa using this
  have hoe : Ctx.owns (fs x) = [] := by
    simp only [Ctx.owns, List.flatMap_eq_nil_iff]
    exact fun f hf => (hem f hf).1
  have ho : Ctx.owns (fs x ++ Γ.set i (.ow e v xs)) = Γ.owns := by
    have := owns_set_eq (f' := .ow e v xs) hi rfl
    simp only [Ctx.owns, List.flatMap_append] at this hoe ⊢
    rw [hoe, this, List.nil_append]
  refine ⟨x, w', h1, (hh.grow h3).adds fun f hf => ⟨hem f hf, ?_⟩, h3, fun b hb => .inl ?_⟩
  · have := h2.all f (List.mem_append_left _ hf)
    rwa [ho] at this
  · simp only [Ctx.owns, List.flatMap_append] at hoe hb ⊢
    rw [hoe, List.nil_append] at hb
    exact hb
theorem JL_od_open {α : Type} [Rep α] {ops : Array Oper} {l : List Oper} {e : TypeId} {v : Value} {xs : List α} {B : List Nat} {j : Int} {y : α} (i : Nat) (hi : Γ[i]? = some (.od e v xs B)) (hj : idx xs j = some y)
    (h : ∀ b cap, v = .slice (some ⟨b, 0, none⟩) xs.length cap → JL P n A w0 ops l Q ρ Γ E) : JL P n A w0 ops l Q ρ Γ E := by
  intro r hr a w hs hh
  obtain ⟨⟨cells, B0, ⟨_, hown⟩, _⟩, _⟩ := hh.get i hi
  rcases hown with ⟨rfl, h0⟩ | ⟨gg, cap, cur, hv, _⟩
  · have := (idx_eq hj).2.1
    omega
  · exact h gg cap hv r hr a w hs hh
theorem SH.cv_od {α : Type} [Rep α] {e : TypeId} {v : Value} {xs : List α} {B : List Nat} (h : SH A w0 w Γ) (i : Nat) (hi : Γ[i]? = some (.od e v xs B)) : CV v [v] :=
  (h.od_ow i hi).cv_ow i (get_set (List.getElem?_eq_some_iff.1 hi).1)
theorem Ca_self {f : FuncId} {vs : List Value} {G : Type} {v : G → Value} {fs : G → Ctx} (hp : ∀ x, (fs x).all Fact.robust = true) (h : ∀ w, SH A w0 w Γ → Con P f vs nowhere w v fs) : Ca P A w0 Γ f vs v (fun x => fs x ++ Γ) :=
  fun w hh => (h w hh).mono fun _ _ ⟨x, he, hk⟩ => ⟨x, he, hh.join_self hk (hp x), Grow.of_below hk.below [], fun b hb => by
    simp only [Ctx.owns, List.flatMap_append, List.mem_append] at hb
    rcases hb with hb | hb
    · exact .inr (hk.ge b hb).1
    · exact .inl hb⟩
theorem tkn_owns {α : Type} [Rep α] {v v' : Value} {xs ys : List α} {B : List Nat} {i : Nat} (hi : Γ[i]? = some (.tkn v xs B)) : ∀ b ∈ Ctx.owns (Γ.set i (.tkn v' ys B)), b ∈ Γ.owns := fun b hb => by
  rwa [owns_set_eq (f' := .tkn v' ys B) hi rfl] at hb
end
end Go.Tc
namespace Go.Tc
open Go Go.RowKit

def bare (w : World) : World := { w with heap := #[] }
abbrev rest (w : World) (B : List Nat) : Fact := .fz w (fun k => k < w.heap.size ∧ k ∉ B)
/-- A part that is a row: at the offset o. -/
def FC {α β : Type} [Rep α] [Rep β] (o : Nat) (y : α) (z : List β) (st : List β → α) : Prop :=
  ∀ w c Bi, Rep.dc w c y Bi → ∃ u Bf, c[o]? = some u ∧ DS w u z Bf ∧ (Bi.Nodup → Bf.Nodup) ∧ (∀ b ∈ Bf, b ∈ Bi) ∧
    ∀ w' z', DS w' u z' Bf → Bi.Nodup → (∀ b ∈ Bi, b ∉ Bf → w'.heap[b]? = w.heap[b]?) → Rep.dc w' c (st z') Bi
/-- A part that is a number. -/
def FSt {α : Type} [Rep α] (o : Nat) (y : α) (st : Int → α) : Prop :=
  ∀ w c Bi, Rep.dc w c y Bi → o < c.length ∧ ∀ k, Rep.dc w (c.set o (.int .i64 k)) (st k) Bi
theorem Dc.ds {β : Type} [Rep β] {w : World} {v : Value} {z : List β} {B : List Nat} (h : Dc w v z B) : DS w v z B := by
  obtain ⟨cs, rfl, u, rfl, h⟩ := h
  exact h
theorem DS.dc {β : Type} [Rep β] {w : World} {v : Value} {z : List β} {B : List Nat} (h : DS w v z B) : Dc w v z B := ⟨[v], rfl, v, rfl, h⟩

section
variable {R : Type} {P : Program} {n : Fr} {A : Nat → Prop} {w0 w w' : World} {Q : R → Exit → Act → World → Prop} {ρ ρ' : Env} {Γ Γ' : Ctx} {E : Option R}
variable {d : Option Nat} {ty : TypeId} {pos : String} {after : Array Edge} {g : Option (Nat × Bool)}
theorem ConM_of {k : Nat} {f : FuncId} {fn : Func} {body : Code} {vs : List Value} {G : Type} {v : R → G → Value} {fs : R → G → Ctx} {r : R}
    (hf : P.funcs[f]? = some fn) (hb : fn.body = some body) (hn : fn.ntmps = k) (hl : Nat.ble vs.length k = true) (hΓ : SH A w0 w Γ) (hρ : enum 0 vs = ρ)
    (h : J P ⟨k, [], none⟩ A w0 body (QBody P fn (Post A w0 v fs)) ρ Γ E) (hE : E = some r) : Calls P f vs.toArray w fun e w' => ∃ x, e = .returned (v r x) ∧ SH A w0 w' (fs r x) := by
  refine calls_wp hf hb ?_
  refine h r hE _ w ⟨?_, rfl, ?_⟩ hΓ
  · simp [Nat.ble_eq] at hl
    simp [hn]; omega
  · intro t u ht
    rw [← hρ] at ht
    obtain ⟨_, h2⟩ := enum_get vs 0 t u ht
    simp at h2
    have hlt : t < vs.length := (List.getElem?_eq_some_iff.1 h2).1
    simp [Nat.ble_eq] at hl
    refine ⟨?_, show t < k by omega⟩
    simp [Array.getD_eq_getD_getElem?, Array.getElem?_append_left (show t < vs.toArray.size by simpa using hlt), h2]
theorem ex_index_lit {α : Type} {x ix : Operand} {t e : TypeId} {k : IntKind} {ag : Bool} {b off cap len s : Nat} {xs : List α} {j : Int} {y : α} (ht : P.underlying t = some (.slice e)) (he : tinf P e = some (s, ag))
    (hx : ev ρ x = some (.slice (some ⟨b, off, none⟩) len cap)) (hix : ev ρ ix = some (.int k j)) (hy : idx xs j = some y) (hl : len = xs.length) :
    Ex P n A w0 ρ Γ ⟨d, .indexAddr t x ix, ty, pos, after, g⟩ (.pointer (some ⟨b, off + j.toNat * s, none⟩)) := by
  intro a w hs hh
  obtain ⟨h0, h1, h2⟩ := idx_eq hy
  have hb : 0 ≤ j ∧ j < (len : Int) := ⟨by omega, by omega⟩
  simp [execOp, hs.eval hx, hs.eval hix, Instr.indexAt, asIntOf, run_underlying ht, hb, tinf_size he, Addr.add_lit]
theorem ex_index_own {α : Type} {x ix : Operand} {t e : TypeId} {k : IntKind} {ag : Bool} {b cap len s : Nat} {xs : List α} {j : Int} {y : α} (ht : P.underlying t = some (.slice e)) (he : tinf P e = some (s, ag))
    (hx : ev ρ x = some (.slice (some ⟨b, 0, none⟩) len cap)) (hix : ev ρ ix = some (.int k j)) (hy : idx xs j = some y) (hl : len = xs.length) :
    Ex P n A w0 ρ Γ ⟨d, .indexAddr t x ix, ty, pos, after, g⟩ (.pointer (some ⟨b, j.toNat * s, none⟩)) := by
  intro a w hs hh
  have := ex_index_lit (P := P) (A := A) (w0 := w0) (Γ := Γ) (d := d) (ty := ty) (pos := pos) (after := after) (g := g) ht he hx hix hy hl a w hs hh
  rw [Nat.zero_add] at this
  exact this
theorem run_mark {f : FuncId} {args : List Operand} {ats : Array TypeId} {vs : List Value} {a : Act} {d : Nat} (hs : Sat n ρ a) (hf : ∀ args w, (callFunc f args).run P w = .ok (.enter f args) w) (hargs : evL ρ args = some vs) :
    (execOp a.eval ⟨some d, .call ⟨.value (.func f), args.toArray, ats⟩, ty, pos, after, g⟩).run P w = .ok (.enter f vs.toArray) w := by
  simp [execOp, resolve, Act.eval, Deferred.ofValue, invoke, hs.evalL hargs, hf]
end
end Go.Tc
namespace Go.Tc
open Go Go.RowKit

section
variable {R : Type} {P : Program} {n : Fr} {A : Nat → Prop} {w0 w w' : World} {Q : R → Exit → Act → World → Prop} {ρ ρ' : Env} {Γ Γ' : Ctx} {E : Option R}
variable {d : Option Nat} {ty : TypeId} {pos : String} {after : Array Edge} {g : Option (Nat × Bool)}

def QInl (P : Program) (fn : Func) (K : R → Value → World → Prop) : R → Exit → Act → World → Prop := fun r => bodyPostM (Fx none) 0 P fn (fun e w => ∃ u, e = .returned u ∧ K r u w)
/-- What goes on behind the call. -/
def Behind (P : Program) (n : Fr) (A : Nat → Prop) (w0 : World) (ops : Array Oper) (rest : List Oper) (Q : R → Exit → Act → World → Prop) (d : Nat) (ρ : Env) (K : R → Value → World → Prop) : Prop :=
  ∀ u Γ' E', JL P n A w0 ops rest Q ((d, u) :: ρ) Γ' E' → ∀ r, E' = some r → ∀ w, SH A w0 w Γ' → K r u w
theorem JL_inline {ops : Array Oper} {rest : List Oper} {d : Nat} {f : FuncId} {fn : Func} {body : Code} {n' : Nat} {args : List Operand} {ats : Array TypeId} {vs : List Value}
    (hw : Wants n ρ ops ⟨some d, .call ⟨.value (.func f), args.toArray, ats⟩, ty, pos, after, g⟩) (hd : Nat.blt d n.n = true)
    (hf : ∀ args w, (callFunc f args).run P w = .ok (.enter f args) w) (hargs : evL ρ args = some vs) (hfn : P.funcs[f]? = some fn) (hb : fn.body = some body) (hn : fn.ntmps = n') (hl : Nat.ble vs.length n' = true) (hρ : enum 0 vs = ρ')
    (h : ∀ K : R → Value → World → Prop, Behind P n A w0 ops rest Q d ρ K → J P ⟨n', [], none⟩ A w0 body (QInl P fn K) ρ' Γ E) : JL P n A w0 ops (⟨some d, .call ⟨.value (.func f), args.toArray, ats⟩, ty, pos, after, g⟩ :: rest) Q ρ Γ E := by
  intro r hr a w hs hh
  refine wpList_step fun K hK => ?_
  rw [hw a hs]
  simp only [if_true]
  unfold Oper.wp
  rw [run_mark hs hf hargs, Oper.upon_enter]
  refine (calls_wp hfn hb (R := fun e w' => ∃ u, e = .returned u ∧ wpList P ops (noP (Q r)) rest (a.put (some d) u) w') ?_).mono ?_
  · have hJ := h (fun r u w' => wpList P ops (noP (Q r)) rest (a.put (some d) u) w') (fun u Γ' E' hJL r hE w hw' => hJL r hE _ w (hs.put (by simpa [Nat.blt_eq] using hd)) hw')
    refine hJ r hr _ w ⟨?_, rfl, ?_⟩ hh
    · simp [Nat.ble_eq] at hl
      simp [hn]; omega
    · intro t u ht
      rw [← hρ] at ht
      obtain ⟨_, h2⟩ := enum_get vs 0 t u ht
      simp at h2
      have hlt : t < vs.length := (List.getElem?_eq_some_iff.1 h2).1
      simp [Nat.ble_eq] at hl
      refine ⟨?_, show t < n' by omega⟩
      simp [Array.getD_eq_getD_getElem?, Array.getElem?_append_left (show t < vs.toArray.size by simpa using hlt), h2]
  · rintro e w' ⟨u, rfl, hu⟩
    exact hK _ _ hu
theorem N_inl0 {fn : Func} {n2 : Fr} {ρ2 : Env} {ops : Array Oper} {rest : List Oper} {d : Nat} {K : R → Value → World → Prop} {e : Exit} (he : e = .ret ∨ e = .normal) (hK : Behind P n A w0 ops rest Q d ρ K) (hres : fn.results = #[])
    (h : JL P n A w0 ops rest Q ((d, .tuple #[]) :: ρ) Γ E) (hds : n2.ds = [] := by rfl) : N n2 A w0 (QInl P fn K) e ρ2 Γ E := by
  intro r hr a w hs hh
  have key : a.defers = [] ∧ ∃ u, (results fn a.tmps).run P w = .ok u w ∧ (∃ u', Ending.returned u = .returned u' ∧ K r u' w) := by
    refine ⟨hs.defers.trans hds, .tuple #[], ?_, _, rfl, hK _ _ _ h r hr w hh⟩
    rw [results_rv, hres]
    simp
  rcases he with rfl | rfl <;> exact leaves0 key.1 key.2
theorem N_inl1 {fn : Func} {n2 : Fr} {ρ2 : Env} {ops : Array Oper} {rest : List Oper} {d : Nat} {K : R → Value → World → Prop} {rv : ResultVar} {u : Value} (hK : Behind P n A w0 ops rest Q d ρ K) (hres : fn.results = #[rv]) (hu : Rv P n2 A w0 ρ2 Γ rv u)
    (h : JL P n A w0 ops rest Q ((d, u) :: ρ) Γ E) (hds : n2.ds = [] := by rfl) : N n2 A w0 (QInl P fn K) .ret ρ2 Γ E := by
  intro r hr a w hs hh
  refine leaves0 (hs.defers.trans hds) ⟨u, ?_, _, rfl, hK _ _ _ h r hr w hh⟩
  rw [results_rv, hres]
  simp [hu a w hs hh]
theorem N_inl2 {fn : Func} {n2 : Fr} {ρ2 : Env} {ops : Array Oper} {rest : List Oper} {d : Nat} {K : R → Value → World → Prop} {rv1 rv2 : ResultVar} {u1 u2 : Value} (hK : Behind P n A w0 ops rest Q d ρ K) (hres : fn.results = #[rv1, rv2]) (hu1 : Rv P n2 A w0 ρ2 Γ rv1 u1) (hu2 : Rv P n2 A w0 ρ2 Γ rv2 u2)
    (h : JL P n A w0 ops rest Q ((d, .tuple #[u1, u2]) :: ρ) Γ E) (hds : n2.ds = [] := by rfl) : N n2 A w0 (QInl P fn K) .ret ρ2 Γ E := by
  intro r hr a w hs hh
  refine leaves0 (hs.defers.trans hds) ⟨.tuple #[u1, u2], ?_, _, rfl, hK _ _ _ h r hr w hh⟩
  rw [results_rv, hres]
  simp [hu1 a w hs hh, hu2 a w hs hh]
theorem JL_none {ops : Array Oper} {l : List Oper} : JL P n A w0 ops l Q ρ Γ none := fun _ hr => by cases hr
theorem JL_conv {ops : Array Oper} {l : List Oper} {E' : Option R} (he : E = E') (h : JL P n A w0 ops l Q ρ Γ E') : JL P n A w0 ops l Q ρ Γ E := he ▸ h

/-! ### More operations -/
theorem ex_max {x y : Operand} {t u : TypeId} {m l : Int} (hx : ev ρ x = some (.int .i64 m)) (hy : ev ρ y = some (.int .i64 l)) : Ex P n A w0 ρ Γ ⟨d, .call ⟨.builtin .max, #[x, y], #[t, u]⟩, ty, pos, after, g⟩ (.int .i64 (if l > m then l else m)) := by
  intro a w hs hh
  simp [execOp, resolve, invoke, builtin, hs.eval hx, hs.eval hy, run_max_int2]
theorem ex_min {x y : Operand} {t u : TypeId} {m l : Int} (hx : ev ρ x = some (.int .i64 m)) (hy : ev ρ y = some (.int .i64 l)) : Ex P n A w0 ρ Γ ⟨d, .call ⟨.builtin .min, #[x, y], #[t, u]⟩, ty, pos, after, g⟩ (.int .i64 (if l < m then l else m)) := by
  intro a w hs hh
  simp [execOp, resolve, invoke, builtin, hs.eval hx, hs.eval hy, run_min_int2]
/-- Is it the nil slice? What it reads as does not tell. -/
theorem JL_eqnil {α : Type} [Rep α] {ops : Array Oper} {rest : List Oper} {d : Nat} {x : Operand} {t u e : TypeId} {v : Value} {xs : List α} (i : Nat) (ht : P.underlying t = some (.slice e)) (hx : ev ρ x = some v) (hi : Γ[i]? = some (.rd v xs)) (hw : Wants n ρ ops ⟨some d, .binOp .eql t x (.const (.slice none 0 0)) u, ty, pos, after, g⟩) (hd : Nat.blt d n.n = true)
    (h1 : xs = [] → JL P n A w0 ops rest Q ((d, .bool true) :: ρ) Γ E) (h2 : JL P n A w0 ops rest Q ((d, .bool false) :: ρ) Γ E) : JL P n A w0 ops (⟨some d, .binOp .eql t x (.const (.slice none 0 0)) u, ty, pos, after, g⟩ :: rest) Q ρ Γ E := by
  intro r hr a w hs hh
  have key : ∃ b, (execOp a.eval ⟨some d, .binOp .eql t x (.const (.slice none 0 0)) u, ty, pos, after, g⟩).run P w = .ok (.value (.bool b)) w ∧ (b = true → xs = []) := by
    have hv : ∃ ad m cap, v = .slice ad m cap ∧ (ad = none → xs = []) := by
      rcases Rd.sl (hh.get i hi) with ⟨rfl, ad, cap, rfl, _⟩ | ⟨b, off, cap, cells, rfl, _⟩
      · exact ⟨ad, 0, cap, rfl, fun _ => rfl⟩
      · exact ⟨_, _, _, rfl, by simp⟩
    obtain ⟨ad, m, cap, rfl, hx'⟩ := hv
    refine ⟨ad.isNone, ?_, fun h => hx' (by simpa using h)⟩
    have hc : a.eval (.const (.slice none 0 0)) = .slice none 0 0 := rfl
    simp only [execOp, hs.eval hx, hc, eqGuard, Sem.run_bind]
    simp [Go.Lib.run_eql_slice_nil w t e ad m cap 0 0 ht]
  obtain ⟨b, hrun, hb⟩ := key
  refine wpList_step fun K hK => ?_
  rw [hw a hs]
  simp only [if_true]
  unfold Oper.wp
  rw [hrun, Oper.upon_value]
  cases b with
  | true => exact hK _ _ (h1 (hb rfl) r hr _ _ (hs.put (by simpa [Nat.blt_eq] using hd)) hh)
  | false => exact hK _ _ (h2 r hr _ _ (hs.put (by simpa [Nat.blt_eq] using hd)) hh)
end
end Go.Tc
namespace Go.Tc
open Go Go.RowKit

section
variable {R : Type} {P : Program} {n : Fr} {A : Nat → Prop} {w0 w w' : World} {Q : R → Exit → Act → World → Prop} {ρ ρ' : Env} {Γ Γ' : Ctx} {E : Option R}
variable {d : Option Nat} {ty : TypeId} {pos : String} {after : Array Edge} {g : Option (Nat × Bool)}

/-- A row that lies in a row with tokens is taken out, with its tokens; the others are left. -/
theorem st_load_od_take {α : Type} [Rep α] {x : Operand} {t e : TypeId} {b cap len : Nat} {xs : List (List α)} {B : List Nat} {j : Int} {y : List α} (i : Nat) (ht : tinf P t = some (1, false)) (hx : ev ρ x = some (.pointer (some ⟨b, j.toNat * Rep.sz (List α), none⟩)))
    (hi : Γ[i]? = some (.od e (.slice (some ⟨b, 0, none⟩) len cap) xs B)) (hy : idx xs j = some y) :
    St P n A w0 ρ Γ ⟨d, .load t x, ty, pos, after, g⟩ (fun p : Value × List Nat => p.1) (fun p => .rd p.1 y :: .tkn p.1 y p.2 :: Γ.set i (.ow e (.slice (some ⟨b, 0, none⟩) len cap) xs)) [] := by
  intro a w hs hh
  have hli := (List.getElem?_eq_some_iff.1 hi).1
  obtain ⟨ts, e1, e2, e3, h1⟩ := hh.od_down i hi
  obtain ⟨h0, hlt, hy'⟩ := idx_eq hy
  have hjt : j.toNat < ts.length := by rw [← dats_length, e1]; exact hlt
  have hyt : idx ts j = some ts[j.toNat] := by
    unfold idx
    rw [if_neg (by omega), List.getElem?_eq_getElem hjt]
  have hty : ts[j.toNat].x = y := by
    have : (dats ts)[j.toNat]? = some y := by rw [e1]; exact hy'
    simpa [dats, hjt] using this
  obtain ⟨v, w', hrun, h2, h3, _⟩ := st_load_ow (α := Tk (List α)) (d := d) (ty := ty) (pos := pos) (after := after) (g := g) i ht hx (get_set hli) hyt a w hs h1
  obtain ⟨cs, hv, hdc, hav⟩ := h2.get 0 rfl
  rw [hty] at hdc
  have hsub : ∀ c ∈ ts[j.toNat].B, c ∈ B := fun c hc => e3 c (List.mem_flatMap.2 ⟨_, List.getElem_mem hjt, hc⟩)
  have hBt : ∀ c ∈ B, c ∈ Γ.toks := fun c hc => List.mem_flatMap.2 ⟨_, List.mem_of_getElem? hi, hc⟩
  have hnd : (ts[j.toNat].B).Nodup := by
    have key : ∀ (ts : List (Tk (List α))) (k : Nat) (hk : k < ts.length), (tks ts).Nodup → (ts[k].B).Nodup := by
      intro ts
      induction ts with
      | nil => intro k hk; simp at hk
      | cons t ts ih =>
        intro k hk hn
        simp only [tks, List.flatMap_cons, List.nodup_append] at hn
        cases k with
        | zero => exact hn.1
        | succ k => exact ih k (by simpa using hk) hn.2.1
    exact key ts _ hjt e2
  have h4 := (hh.grow h3).od_ow i hi
  have hDc : Dc w' v y ts[j.toNat].B := ⟨cs, hv, hdc⟩
  have h5 : SH A w0 w' (.tkn v y ts[j.toNat].B :: Γ.set i (.ow e (.slice (some ⟨b, 0, none⟩) len cap) xs)) := by
    refine h4.consT (Grow.refl w' []) (by simp [Fact.owns]) (by simp [Fact.owns]) ⟨⟨_, hDc, hnd, fun _ h => h⟩, fun c hc => ⟨hDc.lt c hc, ?_⟩⟩ ?_ (fun c hc => hh.tge c (hBt c (hsub c hc)))
    · have ho : Ctx.owns (Fact.tkn v y ts[j.toNat].B :: Γ.set i (.ow e (.slice (some ⟨b, 0, none⟩) len cap) xs)) = Γ.owns := by
        have h6 : Ctx.owns (Fact.tkn v y ts[j.toNat].B :: Γ.set i (.ow e (.slice (some ⟨b, 0, none⟩) len cap) xs)) = Ctx.owns (Γ.set i (.ow e (.slice (some ⟨b, 0, none⟩) len cap) xs)) := by simp [Ctx.owns, Fact.owns]
        rw [h6, owns_set_eq (f' := .ow e (.slice (some ⟨b, 0, none⟩) len cap) xs) hi rfl]
      rw [ho]
      rintro (hk | hk)
      · have := hh.av c hk
        have := hh.tge c (hBt c (hsub c hc))
        omega
      · exact (hh.tlt c (hBt c (hsub c hc))).2 hk
    · show (ts[j.toNat].B ++ Ctx.toks (Γ.set i (.ow e (.slice (some ⟨b, 0, none⟩) len cap) xs))).Nodup
      have p1 := toks_perm0 hi
      have p2 := toks_perm (f' := .ow e (.slice (some ⟨b, 0, none⟩) len cap) xs) hi
      simp only [Fact.toks, List.nil_append] at p1 p2
      have p3 := p2.append_left ts[j.toNat].B
      refine p3.nodup_iff.2 ?_
      have p4 := p1.nodup_iff.1 hh.tnd
      rw [List.nodup_append] at p4 ⊢
      exact ⟨hnd, p4.2.1, fun a ha b hb e => p4.2.2 a (hsub a ha) b hb e⟩
  refine ⟨(v, ts[j.toNat].B), w', hrun, h5.tkn_rd 0 rfl, h3, fun c hc => .inl ?_⟩
  have h6 : Ctx.owns (Fact.rd v y :: Fact.tkn v y ts[j.toNat].B :: Γ.set i (.ow e (.slice (some ⟨b, 0, none⟩) len cap) xs)) = Ctx.owns (Γ.set i (.ow e (.slice (some ⟨b, 0, none⟩) len cap) xs)) := by simp [Ctx.owns, Fact.owns]
  rw [h6, owns_set_eq (f' := .ow e (.slice (some ⟨b, 0, none⟩) len cap) xs) hi rfl] at hc
  exact hc

/-! ### copy -/
theorem ex_cap_lit {x : Operand} {t e : TypeId} {m c : Nat} {ad : Option Addr} (ht : P.underlying t = some (.slice e)) (hx : ev ρ x = some (.slice ad m c)) : Ex P n A w0 ρ Γ ⟨d, .call ⟨.builtin .cap, #[x], #[t]⟩, ty, pos, after, g⟩ (.int .i64 (c : Int)) := by
  intro a w hs hh
  simp [execOp, resolve, invoke, builtin, hs.eval hx, Builtin.cap_, run_underlying ht, goInt]
theorem ex_slice_nil {x hi : Operand} {t e : TypeId} {ag : Bool} {s : Nat} (ht : P.underlying t = some (.slice e)) (he : tinf P e = some (s, ag)) (hx : ev ρ x = some (.slice none 0 0)) (hh' : ev ρ hi = some (.int .i64 0)) : Ex P n A w0 ρ Γ ⟨d, .slice t x none (some hi) none, ty, pos, after, g⟩ (.slice none 0 0) := by
  intro a w hs hh
  simp [execOp, hs.eval hx, hs.eval hh', Instr.sliceAt, Instr.slice, run_underlying ht, Instr.sliceBounds, Instr.sliceBound, asIntOf, tinf_size he]
/-- The begin of an own row: it is the row. -/
theorem st_slice_own {α : Type} [Rep α] {x : Operand} {t e : TypeId} {ag : Bool} {v : Value} {xs ys : List α} {hi : Operand} {h : Int} (i : Nat) (ht : P.underlying t = some (.slice e)) (he : tinf P e = some (Rep.sz α, ag)) (hx : ev ρ x = some v) (hhi : ev ρ hi = some (.int .i64 h))
    (hi' : Γ[i]? = some (.ow e v xs)) (hy : slc xs 0 h = some ys) : St P n A w0 ρ Γ ⟨d, .slice t x none (some hi) none, ty, pos, after, g⟩ (fun v' : Value => v') (fun v' => Γ.set i (.ow e v' ys)) [] := by
  intro a w hs hh
  obtain ⟨h0, h1, h2, rfl⟩ := slc_eq hy
  simp only [Int.toNat_zero, List.drop_zero]
  obtain ⟨cells, ⟨hl0, hown⟩, hr⟩ := hh.get i hi'
  have hlen : (xs.take h.toNat).length = h.toNat := by rw [List.length_take]; omega
  rcases hown with ⟨rfl, hz⟩ | ⟨gg, c, cur, rfl, hb, hg, hnc, hcm, hcs, htake⟩
  · have hx0 : xs = [] := List.eq_nil_of_length_eq_zero hz
    subst hx0
    simp at h2
    have hh0 : h = 0 := by omega
    subst hh0
    refine ⟨.slice none 0 0, w, ?_, ?_, Grow.refl w _, .set hi' (fun c hc => .inl hc)⟩
    · simp [execOp, hs.eval hx, hs.eval hhi, Instr.sliceAt, Instr.slice, run_underlying ht, Instr.sliceBounds, Instr.sliceBound, asIntOf, tinf_size he]
    · rw [List.take_nil, set_self hi']
      exact hh
  · refine ⟨.slice (some ⟨gg, 0, none⟩) h.toNat c, w, ?_, ?_, Grow.refl w _, .set hi' (fun c hc => .inl (by simpa [Fact.owns, Value.ownBlock] using hc))⟩
    · have hb2 : 0 ≤ h ∧ h ≤ (c : Int) := ⟨by omega, by omega⟩
      by_cases hc0 : c = 0
      · simp [execOp, hs.eval hx, hs.eval hhi, Instr.sliceAt, Instr.slice, run_underlying ht, Instr.sliceBounds, Instr.sliceBound, asIntOf, tinf_size he, hb2, hc0]
        omega
      · simp [execOp, hs.eval hx, hs.eval hhi, Instr.sliceAt, Instr.slice, run_underlying ht, Instr.sliceBounds, Instr.sliceBound, asIntOf, tinf_size he, Addr.add_lit, hb2, hc0]
        try omega
    · have hOe : Ctx.owns (Γ.set i (.ow e (.slice (some ⟨gg, 0, none⟩) h.toNat c) (xs.take h.toNat))) = Γ.owns := owns_set_eq hi' rfl
      refine hh.set hi' (Grow.refl w _) (by simp [Fact.owns, Value.ownBlock]) (fun k hk => ⟨.inl (by simpa [Fact.owns, Value.ownBlock] using hk), ?_⟩) ?_
      · simp [Fact.owns, Value.ownBlock] at hk
        subst hk
        exact lt_of_some hg
      · rw [hOe]
        refine ⟨cells.take (h.toNat * Rep.sz α), ⟨?_, .inr ⟨gg, c, cur, by rw [hlen], hb, hg, by rw [hlen]; omega, hcm, hcs, ?_⟩⟩, RdL.take _ _ _ hr⟩
        · rw [hlen, List.length_take, hl0]
          have := Nat.mul_le_mul_right (Rep.sz α) (show h.toNat ≤ xs.length by omega)
          omega
        · rw [hlen, ← htake, List.take_take, Nat.min_eq_left (Nat.mul_le_mul_right _ (by omega))]
/-- A row of zeros, made by an append. -/
theorem st_zeros {α : Type} [Rep α] {x y : Operand} {t tn e : TypeId} {ag : Bool} {bytes : Nat} {zv : Value} {z : α} {k : Int} {xs : List α} (ht : P.underlying t = some (.slice e)) (htn : P.underlying tn = some (.int .i64)) (he : tinf P e = some (Rep.sz α, ag)) (hz : zinf P e = some zv) (hb : binf P e = some bytes) (hby : Nat.ble bytes 128 = true)
    (hzr : ∀ A w, ∃ zc : List Value, zv.cells = zc.toArray ∧ Rep.rdc A w zc z) (hx : ev ρ x = some (.slice none 0 0)) (hy : ev ρ y = some (.int .i64 k)) (hk0 : 0 < k) (hk : mke k z = some xs) :
    St P n A w0 ρ Γ ⟨d, .call ⟨.builtin .append, #[x, y], #[t, tn]⟩, ty, pos, after, g⟩ (fun v : Value => v) (fun v => .ow e v xs :: Γ) [] := by
  intro a w hs hh
  obtain ⟨h0, h1, rfl⟩ := mke_eq hk
  obtain ⟨inf, hinf, hz'⟩ := Option.bind_eq_some_iff.1 hz
  have hsz : inf.size = Rep.sz α := by
    have h1 := he
    unfold tinf at h1
    rw [hinf] at h1
    split at h1
    · rename_i i' u' e1 e2
      simp at e1 h1
      rw [e1]; exact h1.1
    · simp at h1
  have hbb : inf.bytes = bytes := by simpa [binf, hinf] using hb
  simp only [Nat.ble_eq] at hby
  obtain ⟨m, rfl⟩ := Int.eq_ofNat_of_zero_le h0
  simp only [Int.toNat_natCast] at hk h1 hy ⊢
  have hm0 : 0 < m := by omega
  have h48 : m * inf.bytes ≤ 281474976710656 := by
    rw [hbb]
    have := Nat.mul_le_mul (show m ≤ 1099511627776 by omega) hby
    omega
  have hrun := Go.Lib.run_append_nil_zeros (P := P) w t tn ty e inf zv .i64 .i64 ht htn hinf hz' m hm0 (by rw [hsz]; exact Rep.pos) (by omega) h48
  obtain ⟨zc, hzc, hzr⟩ := hzr (fun k' => A k' ∨ k' ∈ Ctx.owns (.ow e (.slice (some ⟨w.heap.size, 0, none⟩) m (grownCap w m 0 e)) (List.replicate m z) :: Γ)) w
  have hgc : m ≤ grownCap w m 0 e := grownCap_ge w _ _ _
  have hzl : zc.length = Rep.sz α := Rep.len hzr
  generalize hG : grownCap w m 0 e = G at hrun hgc hzr
  have hzs : zv.cells.size = Rep.sz α := by rw [hzc]; simpa using hzl
  have hcs : ∀ q, q < m * Rep.sz α → (Builtin.zeroCells zv.cells m ++ Builtin.zeroCells zv.cells (G - m))[q]? = (madeCells zc.toArray (m * Rep.sz α))[q]? := by
    intro q hq
    rw [Array.getElem?_append_left (by rw [size_zeroCells, hzs]; exact hq)]
    rw [hzc]
    simp [Builtin.zeroCells, madeCells, hzl, hq]
  refine ⟨.slice (some ⟨w.heap.size, 0, none⟩) m G, w.drew.alloc (.cells (Builtin.zeroCells zv.cells m ++ Builtin.zeroCells zv.cells (G - m)) e), ?_, ?_, (Grow.drew w []).trans (Grow.alloc w.drew _ []), .cons (by simp [Fact.owns, Value.ownBlock])⟩
  · simp [execOp, resolve, invoke, builtin, hs.eval hx, hs.eval hy, hrun]
  · have hhe : w.drew.heap.size = w.heap.size := rfl
    refine hh.drew.cons (Grow.alloc w.drew _ []) (by simp [Fact.owns, Value.ownBlock]) (by simp [Fact.owns, Value.ownBlock, hhe]) ?_
    refine ⟨(madeCells zc.toArray (m * Rep.sz α)).toList, ⟨?_, .inr ⟨w.heap.size, G, _, by simp, Nat.zero_le _, heap_alloc_new w.drew _, by simpa using hgc, ?_, ?_, ?_⟩⟩, ?_⟩
    · simp [size_madeCells]
    · have := grownCap_le_maxLen w m 0 e (by unfold maxLen; omega)
      rw [hG] at this
      exact this
    · simp only [Array.size_append, size_zeroCells, hzs]
      rw [← Nat.add_mul]; congr 1; omega
    · simp only [List.length_replicate]
      apply List.ext_getElem?
      intro q
      rw [List.getElem?_take]
      by_cases hq : q < m * Rep.sz α
      · rw [if_pos hq]
        have := hcs q hq
        rw [← Array.getElem?_toList, ← Array.getElem?_toList] at this
        exact this
      · rw [if_neg hq, List.getElem?_eq_none]
        simp [size_madeCells]; omega
    · refine RdL.frame ?_ _ _ (madeCells_rdL hzr m)
      intro k hk ha
      exact ⟨heap_alloc_old w.drew _ (by rw [hhe]; exact hk), ha⟩

/-! ### Parts of rows, handed on -/
/-- v', read as ys, is a part of v, read as xs. -/
def Sub {α : Type} [Rep α] (v : Value) (xs : List α) (v' : Value) (ys : List α) : Prop := (∀ w B, Dn w v xs B → Dn w v' ys B) ∧ ∀ A w, Rd A w v xs → Rd A w v' ys
theorem Sub.refl {α : Type} [Rep α] {v : Value} {xs : List α} : Sub v xs v xs := ⟨fun _ _ h => h, fun _ _ h => h⟩
theorem Sub.nil {α : Type} [Rep α] {v : Value} {xs : List α} : Sub v xs (.slice none 0 0) ([] : List α) := ⟨fun _ _ _ => dn_nil, fun _ _ _ => rdNil⟩
theorem Sub.trans {α : Type} [Rep α] {v v' v'' : Value} {xs ys zs : List α} (h : Sub v xs v' ys) (k : Sub v' ys v'' zs) : Sub v xs v'' zs := ⟨fun w B d => k.1 w B (h.1 w B d), fun A w r => k.2 A w (h.2 A w r)⟩
theorem DL.take {α : Type} [Rep α] {w : World} : ∀ (xs : List α) (cs : List Value) (B : List Nat) (k : Nat), DL w cs xs B → ∃ B', B'.Sublist B ∧ DL w (cs.take (k * Rep.sz α)) (xs.take k) B'
  | [], cs, B, k, h => ⟨[], List.nil_sublist _, by rw [h.1]; simp [DL]⟩
  | x :: r, cs, B, 0, h => ⟨[], List.nil_sublist _, by simp [DL]⟩
  | x :: r, cs, B, k + 1, ⟨c1, c2, B1, B2, e, eB, h1, h2⟩ => by
    subst e eB
    have l1 := Rep.len (Rep.dcr (A := nowhere) h1 fun _ _ h => h)
    obtain ⟨B', s', h'⟩ := DL.take r c2 B2 k h2
    refine ⟨B1 ++ B', List.Sublist.append (List.Sublist.refl _) s', c1, c2.take (k * Rep.sz α), B1, B', ?_, rfl, h1, h'⟩
    rw [show (k + 1) * Rep.sz α = c1.length + k * Rep.sz α by rw [Nat.add_mul, l1]; omega, List.take_length_add_append]
theorem DL.drop {α : Type} [Rep α] {w : World} : ∀ (xs : List α) (cs : List Value) (B : List Nat) (k : Nat), DL w cs xs B → ∃ B', B'.Sublist B ∧ DL w (cs.drop (k * Rep.sz α)) (xs.drop k) B'
  | [], cs, B, k, h => ⟨[], List.nil_sublist _, by rw [h.1]; simp [DL]⟩
  | x :: r, cs, B, 0, h => ⟨B, List.Sublist.refl _, by simpa using h⟩
  | x :: r, cs, B, k + 1, ⟨c1, c2, B1, B2, e, eB, h1, h2⟩ => by
    subst e eB
    have l1 := Rep.len (Rep.dcr (A := nowhere) h1 fun _ _ h => h)
    obtain ⟨B', s', h'⟩ := DL.drop r c2 B2 k h2
    refine ⟨B', s'.trans (List.sublist_append_right _ _), ?_⟩
    rw [show (k + 1) * Rep.sz α = c1.length + k * Rep.sz α by rw [Nat.add_mul, l1]; omega, List.drop_length_add_append]
    exact h'
/-- The value of a sub-slice. -/
def subv (s l h : Nat) : Value → Value
  | .slice ad _ cap => .slice (if cap = l then ad else ad.map (·.add (l * s))) (h - l) (cap - l)
  | v => v
theorem run_subv {t e : TypeId} {s len cap : Nat} {ag : Bool} {ad : Option Addr} {lo hi : Option Value} {l h : Int} (ht : P.underlying t = some (.slice e)) (he : tinf P e = some (s, ag)) (hlo : lo = none ∧ l = 0 ∨ lo = some (.int .i64 l)) (hhi : hi = none ∧ h = len ∨ hi = some (.int .i64 h)) (h0 : 0 ≤ l) (h1 : l ≤ h) (h2 : h ≤ len) (hc : len ≤ cap) :
    (Instr.sliceAt t (.slice ad len cap) lo hi none).run P w = .ok (subv s l.toNat h.toNat (.slice ad len cap)) w := by
  have hb2 : 0 ≤ h ∧ h ≤ (cap : Int) := ⟨by omega, by omega⟩
  have hb3 : 0 ≤ l ∧ l ≤ (len : Int) := ⟨h0, by omega⟩
  have hb4 : ¬ max h 0 < l := by omega
  have hb5 : l ≤ max h 0 := by omega
  rcases hlo with ⟨rfl, rfl⟩ | rfl <;> rcases hhi with ⟨rfl, rfl⟩ | rfl <;>
    simp [Instr.sliceAt, Instr.slice, run_underlying ht, Instr.sliceBounds, Instr.sliceBound, asIntOf, tinf_size he, subv, hb2, hb3, hb5]
theorem sub_subv {α : Type} [Rep α] {ad : Option Addr} {cap : Nat} {xs ys : List α} {l h : Int} (hy : slc xs l h = some ys) (hsp : ∀ a, ad = some a → a.spot = none) (hn : ad = none → cap = 0) (hcap : xs.length ≤ cap) (hcm : cap ≤ maxLen) : Sub (.slice ad xs.length cap) xs (subv (Rep.sz α) l.toNat h.toNat (.slice ad xs.length cap)) ys := by
  obtain ⟨h0, h1, h2, rfl⟩ := slc_eq hy
  have hlen : ((xs.take h.toNat).drop l.toNat).length = h.toNat - l.toNat := by simp; omega
  have hnone : ad = none → xs = [] ∧ l = 0 ∧ h = 0 := fun e => by
    have := hn e
    have : xs.length = 0 := by omega
    exact ⟨List.eq_nil_of_length_eq_zero this, by omega, by omega⟩
  refine ⟨fun w B hd => ?_, fun A w hr => ?_⟩
  · obtain ⟨B0, hdc, hnd, hsub⟩ := hd
    have hds := hdc.ds
    cases ad with
    | none =>
      obtain ⟨rfl, rfl, rfl⟩ := hnone rfl
      have := hn rfl
      subst this
      exact dn_nil
    | some a =>
      obtain ⟨b, off, sp⟩ := a
      have := hsp _ rfl
      simp only at this
      subst this
      rcases hds with ⟨rfl, rfl, _⟩ | ⟨b', off', cap', cells, Bs, arr, t, hv, hb, h3, h4, h5, h6, rfl⟩
      · simp at h2
        have : l = 0 := by omega
        have : h = 0 := by omega
        subst l h
        refine ⟨[], DS.dc (.inl ⟨by simp, rfl, _, cap, rfl, ?_, hcm⟩), by simp, by simp⟩
        split <;> simp
      · simp only [Value.slice.injEq, Option.some.injEq, Addr.mk.injEq, and_true] at hv
        obtain ⟨⟨rfl, rfl⟩, _, rfl⟩ := hv
        obtain ⟨B1, s1, d1⟩ := DL.take xs cells Bs h.toNat h6
        obtain ⟨B2, s2, d2⟩ := DL.drop _ _ B1 l.toNat d1
        have hs := s2.trans s1
        refine ⟨b :: B2, DS.dc (.inr ⟨b, if cap = l.toNat then off else off + l.toNat * Rep.sz α, cap - l.toNat, _, B2, arr, t, ?_, hb, ?_, ?_, ?_, d2, rfl⟩), hnd.sublist (hs.cons_cons b), fun c hc => hsub c ((hs.cons_cons b).subset hc)⟩
        · rw [hlen]
          simp only [subv]
          by_cases hc : cap = l.toNat <;> simp [hc, Addr.add_lit]
        · rw [hlen]; omega
        · omega
        · intro j u hj
          have hlt := (List.getElem?_eq_some_iff.1 hj).1
          simp at hlt
          by_cases hc : cap = l.toNat
          · exfalso
            have : h.toNat ≤ l.toNat := by omega
            have := Nat.mul_le_mul_right (Rep.sz α) this
            omega
          · rw [if_neg hc, Nat.add_assoc]
            refine h5 _ _ ?_
            rw [List.getElem?_drop, List.getElem?_take] at hj
            split at hj
            · exact hj
            · simp at hj
  · refine .mk_sl ?_
    rcases Rd.sl hr with ⟨rfl, _⟩ | ⟨b, off, cap', cells, hv, g1, g2, g3, g4, g5, g6⟩
    · simp at h2
      have : l = 0 := by omega
      have : h = 0 := by omega
      subst l h
      refine .inl ⟨by simp, _, cap, rfl, fun e => ?_, hcm⟩
      cases ad with
      | none => exact hn rfl
      | some a => split at e <;> simp at e
    · simp only [Value.slice.injEq] at hv
      obtain ⟨rfl, _, rfl⟩ := hv
      refine .inr ⟨b, if cap = l.toNat then off else off + l.toNat * Rep.sz α, cap - l.toNat, (cells.take (h.toNat * Rep.sz α)).drop (l.toNat * Rep.sz α), ?_, g1, g2, ?_, ?_, ?_, RdL.drop _ _ _ (RdL.take _ _ _ g6)⟩
      · rw [hlen]
        simp only [subv]
        by_cases hc : cap = l.toNat <;> simp [hc, Addr.add_lit]
      · rw [hlen]; omega
      · omega
      · intro j u hj
        have hlt := (List.getElem?_eq_some_iff.1 hj).1
        simp at hlt
        by_cases hc : cap = l.toNat
        · exfalso
          have : h.toNat ≤ l.toNat := by omega
          have := Nat.mul_le_mul_right (Rep.sz α) this
          omega
        · rw [if_neg hc, Nat.add_assoc]
          refine g5 _ _ ?_
          rw [List.getElem?_drop, List.getElem?_take] at hj
          split at hj
          · exact hj
          · simp at hj
/-- A sub-slice, and that it is a part. -/
theorem st_slice_sub {α : Type} [Rep α] {x : Operand} {t e : TypeId} {ag : Bool} {v : Value} {xs ys : List α} {lo hi : Option Operand} {l h : Int} (i : Nat) (ht : P.underlying t = some (.slice e)) (he : tinf P e = some (Rep.sz α, ag)) (hx : ev ρ x = some v) (hlo : bound ρ lo 0 = some l) (hhi : bound ρ hi xs.length = some h)
    (hi' : Γ[i]? = some (.rd v xs)) (hy : slc xs l h = some ys) : St P n A w0 ρ Γ ⟨d, .slice t x lo hi none, ty, pos, after, g⟩ (fun v' : Value => v') (fun v' => .rd v' ys :: .pr (Sub v xs v' ys) :: Γ) [] := by
  intro a w hs hh
  have hr := Rd.sl (hh.get i hi')
  have hv : ∃ ad cap, v = .slice ad xs.length cap ∧ (∀ a, ad = some a → xs = [] ∨ a.spot = none) ∧ (ad = none → cap = 0) ∧ xs.length ≤ cap ∧ cap ≤ maxLen := by
    rcases hr with ⟨rfl, ad, cap, rfl, hn, hcm⟩ | ⟨b, off, cap, cells, rfl, g1, g2, g3, g4, g5, g6⟩
    · exact ⟨ad, cap, rfl, fun _ _ => .inl rfl, hn, Nat.zero_le _, hcm⟩
    · exact ⟨_, cap, rfl, fun a e => by cases e; exact .inr rfl, by simp, g3, g4⟩
  obtain ⟨ad, cap, rfl, hsp, hn, hcap, hcm⟩ := hv
  obtain ⟨h0, h1, h2, _⟩ := slc_eq hy
  have hrun := run_subv (P := P) (w := w) (ad := ad) (cap := cap) ht he (bound_val hs hlo) (bound_val hs hhi) h0 h1 h2 hcap
  have hsub : Sub (.slice ad xs.length cap) xs (subv (Rep.sz α) l.toNat h.toNat (.slice ad xs.length cap)) ys := by
    by_cases hx0 : xs = []
    · subst hx0
      obtain ⟨_, _, _, rfl⟩ := slc_eq hy
      simp at h2
      have : l = 0 := by omega
      have : h = 0 := by omega
      subst l h
      simp only [List.take_nil, List.drop_nil]
      have hform : ∃ ad', subv (Rep.sz α) (Int.toNat 0) (Int.toNat 0) (.slice ad ([] : List α).length cap) = .slice ad' 0 cap ∧ (ad' = none → cap = 0) := by
        refine ⟨_, rfl, fun e => ?_⟩
        cases ad with
        | none => exact hn rfl
        | some a => split at e <;> simp at e
      obtain ⟨ad', he', hn'⟩ := hform
      rw [he']
      exact ⟨fun w B _ => ⟨[], DS.dc (.inl ⟨rfl, rfl, ad', cap, rfl, hn', hcm⟩), by simp, by simp⟩, fun A w _ => .mk_sl (.inl ⟨rfl, ad', cap, rfl, hn', hcm⟩)⟩
    · exact sub_subv hy (fun a e => (hsp a e).resolve_left hx0) hn hcap hcm
  refine ⟨subv (Rep.sz α) l.toNat h.toNat (.slice ad xs.length cap), w, ?_, ?_, Grow.refl w _, .plain rfl⟩
  · simp only [execOp, hs.eval hx, Option.map_none]
    simp [hrun]
  · have h3 : SH A w0 w (.pr (Sub (.slice ad xs.length cap) xs (subv (Rep.sz α) l.toNat h.toNat (.slice ad xs.length cap)) ys) :: Γ) := hh.cons (Grow.refl w []) (by simp [Fact.owns]) (by simp [Fact.owns]) hsub
    refine h3.cons_rd ?_
    have := hsub.2 _ w (hh.get i hi')
    simpa [Ctx.owns, Fact.owns] using this
theorem SH.pr {p : Prop} (h : SH A w0 w Γ) (i : Nat) (hi : Γ[i]? = some (.pr p)) : p := h.get i hi
/-- The tokens go over to the part. -/
theorem SH.sub_tkn {α : Type} [Rep α] {v v' : Value} {xs ys : List α} {B : List Nat} (h : SH A w0 w Γ) (i : Nat) (hi : Γ[i]? = some (.tkn v xs B)) (hs : Sub v xs v' ys) : SH A w0 w (Γ.set i (.tkn v' ys B)) := by
  refine h.retell hi rfl (fun hk => ⟨hs.1 _ _ hk.1, hk.2⟩) ?_ (fun b hb => h.tge b (List.mem_flatMap.2 ⟨_, List.mem_of_getElem? hi, hb⟩))
  refine (toks_perm (f' := .tkn v' ys B) hi).nodup_iff.2 ?_
  exact (toks_perm0 hi).nodup_iff.1 h.tnd
theorem SH.sub_rd {α : Type} [Rep α] {v v' : Value} {xs ys : List α} (h : SH A w0 w Γ) (i : Nat) (hi : Γ[i]? = some (.rd v xs)) (hs : Sub v xs v' ys) : SH A w0 w (.rd v' ys :: Γ) := h.cons_rd (hs.2 _ _ (h.get i hi))
theorem SH.cons_pr {p : Prop} (h : SH A w0 w Γ) (hp : p) : SH A w0 w (.pr p :: Γ) := h.cons (Grow.refl w []) (by simp [Fact.owns]) (by simp [Fact.owns]) hp

/-! ### Among orders -/
section
variable {w1 : World} {Γ1 : Ctx} {ops : Array Oper} {O : List Nat} {fuel : Nat} {listed : Array Bool}
theorem JP_ow_open {α : Type} [Rep α] {e : TypeId} {v : Value} {xs : List α} {j : Int} {y : α} (i : Nat) (hi : Γ[i]? = some (.ow e v xs)) (hj : idx xs j = some y)
    (h : ∀ b cap, v = .slice (some ⟨b, 0, none⟩) xs.length cap → JP P n A w0 ops O fuel listed Q ρ Γ E) : JP P n A w0 ops O fuel listed Q ρ Γ E := by
  intro r hr a w hs hh
  obtain ⟨cells, ⟨_, hown⟩, _⟩ := hh.get i hi
  rcases hown with ⟨rfl, h0⟩ | ⟨gg, cap, cur, hv, _⟩
  · have := (idx_eq hj).2.1
    omega
  · exact h gg cap hv r hr a w hs hh
theorem JP_od_open {α : Type} [Rep α] {e : TypeId} {v : Value} {xs : List α} {B : List Nat} {j : Int} {y : α} (i : Nat) (hi : Γ[i]? = some (.od e v xs B)) (hj : idx xs j = some y)
    (h : ∀ b cap, v = .slice (some ⟨b, 0, none⟩) xs.length cap → JP P n A w0 ops O fuel listed Q ρ Γ E) : JP P n A w0 ops O fuel listed Q ρ Γ E := by
  intro r hr a w hs hh
  obtain ⟨⟨cells, B0, ⟨_, hown⟩, _⟩, _⟩ := hh.get i hi
  rcases hown with ⟨rfl, h0⟩ | ⟨gg, cap, cur, hv, _⟩
  · have := (idx_eq hj).2.1
    omega
  · exact h gg cap hv r hr a w hs hh
theorem sub_od {α : Type} [Rep α] {js : List Nat} {e : TypeId} {v : Value} {xs : List α} {B : List Nat} (m : Nat) (hm : (sel js Γ)[m]? = some (.od e v xs B)) : ∀ k ∈ v.ownBlock.toList, k ∈ (sel js Γ).owns := owns_sub m hm
theorem sub_owl {α : Type} [Rep α] {js : List Nat} {e : TypeId} {b len cap : Nat} {xs : List α} (m : Nat) (hm : (sel js Γ)[m]? = some (.ow e (.slice (some ⟨b, 0, none⟩) len cap) xs)) : ∀ k ∈ [b], k ∈ (sel js Γ).owns := owns_sub m hm
/-- What a fact owns that took the place of one that the region changes: it is that one's, or new. -/
theorem own_twice {f : Fact} (m : Nat) (js is1 is2 : List Nat) (hm : Γ[m]? = some f) (hnd : ndup (m :: is2) = true) (hcov : (List.range Γ1.length).all (fun i => (js ++ is1).any (Nat.beq i)) = true) (hs : sel is1 Γ1 = sel is2 Γ) (hO : (sel js Γ1).owns = O)
    (hh : SH A w0 w Γ) (hon : OwnNew Γ1 Γ w1) : ∀ k ∈ f.owns, k ∈ O ∨ w1.heap.size ≤ k := by
  intro k hk
  have hkΓ : k ∈ Γ.owns := List.mem_flatMap.2 ⟨f, List.mem_of_getElem? hm, hk⟩
  rcases hon k hkΓ with h1 | h1
  · left
    obtain ⟨f1, hf1, hk1⟩ := List.mem_flatMap.1 h1
    obtain ⟨i, hi⟩ := List.mem_iff_getElem?.1 hf1
    have hlt := (List.getElem?_eq_some_iff.1 hi).1
    have := List.all_eq_true.1 hcov i (List.mem_range.2 hlt)
    rw [List.any_eq_true] at this
    obtain ⟨i', hi', e⟩ := this
    have e := Nat.eq_of_beq_eq_true e
    subst e
    have selmem : ∀ (is : List Nat), i ∈ is → k ∈ (sel is Γ1).owns := by
      intro is
      induction is with
      | nil => intro h; simp at h
      | cons q is ih =>
        intro h
        simp only [sel]
        rcases List.mem_cons.1 h with rfl | h
        · rw [hi]
          simp only [Ctx.owns, List.flatMap_cons, List.mem_append]
          exact .inl hk1
        · have := ih h
          cases hq : Γ1[q]? with
          | none => exact this
          | some f' =>
            simp only [Ctx.owns, List.flatMap_cons, List.mem_append]
            exact .inr this
    rcases List.mem_append.1 hi' with hi' | hi'
    · rw [← hO]
      exact selmem js hi'
    · have h2 := selmem is1 hi'
      rw [hs] at h2
      obtain ⟨m2, hm2, f2, hf2, hk2⟩ := sel_owns is2 Γ k h2
      simp only [ndup, Bool.and_eq_true, Bool.not_eq_true', List.any_eq_false] at hnd
      exact (nodup_two hh.nd hm hf2 (fun e => by subst e; exact hnd.1 m hm2 (Nat.beq_refl m)) hk hk2).elim
  · exact .inr h1
theorem Grow.more2 {w w' : World} {T : List Nat} (h1 : Grow w1 w O) (h2 : Grow w w' T) (hT : ∀ k ∈ T, k ∈ O ∨ w1.heap.size ≤ k) : Grow w1 w' O :=
  ⟨h2.os.trans h1.os, h2.tape.trans h1.tape, h2.output.trans h1.output, Nat.le_trans h1.size h2.size, fun k hk hs => (h2.block k (Nat.lt_of_lt_of_le hk h1.size) (fun hm => (hT k hm).elim hs (fun h => by omega))).trans (h1.block k hk hs)⟩
variable {ty : TypeId} {pos : String} {after : Array Edge} {g : Option (Nat × Bool)}
theorem JO_sk2 {i : Nat} {op : Op} {f : Fact} (m : Nat) (js is1 is2 : List Nat) (hm : Γ[m]? = some f) (hnd : ndup (m :: is2) = true) (hcov : (List.range Γ1.length).all (fun i => (js ++ is1).any (Nat.beq i)) = true) (hsl : sel is1 Γ1 = sel is2 Γ) (hO : (sel js Γ1).owns = O)
    (hi : ops[i]? = some ⟨none, op, ty, pos, after, g⟩) (hw : Wants n ρ ops ⟨none, op, ty, pos, after, g⟩) {T : List Nat} (hx : Sk P n A w0 ρ Γ ⟨none, op, ty, pos, after, g⟩ Γ' T) (hTf : ∀ k ∈ T, k ∈ f.owns)
    (h : JD P n A w0 w1 Γ1 ops O fuel (listed.setIfInBounds i true) Q ρ Γ' E) : JO P n A w0 w1 Γ1 ops O fuel listed Q i ρ Γ E := by
  intro r hr' a w hsa hh hg hon
  obtain ⟨w', hrun, hh', hgr, hno⟩ := hx a w hsa hh
  have hT : ∀ k ∈ T, k ∈ O ∨ w1.heap.size ≤ k := fun k hk => own_twice m js is1 is2 hm hnd hcov hsl hO hh hon k (hTf k hk)
  unfold wpOp
  simp only [hi, hw a hsa, if_true]
  refine .inl ?_
  unfold Oper.wp
  rw [hrun, Oper.upon_skip]
  exact ⟨hg.more2 hgr hT, h r hr' _ _ hsa hh' (hg.more2 hgr hT) (hon.trans hg hno)⟩
end
end
end Go.Tc
namespace Go.Tc
open Go Go.RowKit

section
variable {A : Nat → Prop} {w0 w w' : World} {Γ Γ' Δ : Ctx}
end

/-- An operation that makes memory: its place, its slot, what it gives and the facts that it adds. -/
structure POp where
  i : Nat
  d : Nat
  G : Type
  v : G → Value
  fs : G → Ctx
/-- The operation does its work in every state that has grown. -/
def PStep (P : Program) (n : Fr) (A : Nat → Prop) (w0 : World) (ops : Array Oper) (ρ : Env) (Γ : Ctx) (p : POp) : Prop :=
  ∀ (Δ : Ctx) (Q : Exit → Act → World → Prop) (a : Act) (w : World) (K : Act → World → Prop), Sat n ρ a → SH A w0 w (Γ ++ Δ) →
    (∀ x w', SH A w0 w' (p.fs x ++ (Γ ++ Δ)) → Grow w w' [] → OwnNew (Γ ++ Δ) (p.fs x ++ (Γ ++ Δ)) w → K (a.put (some p.d) (p.v x)) w') → wpOp P ops Q p.i K a w
def PSteps (P : Program) (n : Fr) (A : Nat → Prop) (w0 : World) (ops : Array Oper) (ρ : Env) (Γ : Ctx) : List POp → Prop
  | [] => True
  | p :: S => PStep P n A w0 ops ρ Γ p ∧ PSteps P n A w0 ops ρ Γ S
theorem PSteps.get {P : Program} {n : Fr} {A : Nat → Prop} {w0 : World} {ops : Array Oper} {ρ : Env} {Γ : Ctx} : ∀ {S : List POp}, PSteps P n A w0 ops ρ Γ S → ∀ p ∈ S, PStep P n A w0 ops ρ Γ p
  | _ :: _, h, p, hp => by
    rcases List.mem_cons.1 hp with rfl | hp
    · exact h.1
    · exact h.2.get p hp

section
variable {R : Type} {P : Program} {n : Fr} {A : Nat → Prop} {w0 w1 : World} {Q : R → Exit → Act → World → Prop} {ρ ρ' : Env} {Γ Γ' Γp Γ1 : Ctx} {E : Option R} {O : List Nat} {ops : Array Oper} {fuel : Nat} {listed : Array Bool}
variable {ty : TypeId} {pos : String} {after : Array Edge} {g : Option (Nat × Bool)}

/-- What a done operation left. -/
abbrev PDone := (p : POp) × p.G
def PDone.holds (n : Fr) (a : Act) (q : PDone) : Prop := a.tmps.getD q.1.d undef = q.1.v q.2 ∧ q.1.d < n.n
def PDone.fs (q : PDone) : Ctx := q.1.fs q.2
theorem Sat.more {a : Act} {d : Nat} {v : Value} (h : Sat n ρ a) (hv : a.tmps.getD d undef = v) (hd : d < n.n) : Sat n ((d, v) :: ρ) a := by
  refine ⟨h.size, h.defers, fun t u ht => ?_⟩
  simp only [Env.get] at ht
  by_cases e : d = t
  · subst e
    simp at ht
    subst ht
    exact ⟨hv, hd⟩
  · rw [beq_false_of e] at ht
    exact h.get t u (by simpa using ht)
theorem PStep.st {i d : Nat} {op : Op} {G : Type} {v : G → Value} {fs : G → Ctx} (hi : ops[i]? = some ⟨some d, op, ty, pos, after, g⟩) (hw : Wants n ρ ops ⟨some d, op, ty, pos, after, g⟩)
    (hx : ∀ Δ, St P n A w0 ρ (Γ ++ Δ) ⟨some d, op, ty, pos, after, g⟩ v (fun x => fs x ++ (Γ ++ Δ)) []) : PStep P n A w0 ops ρ Γ ⟨i, d, G, v, fs⟩ := by
  intro Δ Q a w K hs hh hK
  obtain ⟨x, w', hrun, hh', hgr, hno⟩ := hx Δ a w hs hh
  unfold wpOp
  simp only [hi, hw a hs, if_true]
  refine .inl ?_
  unfold Oper.wp
  rw [hrun, Oper.upon_value]
  exact hK x w' hh' hgr hno
theorem PStep.call {i d : Nat} {f : FuncId} {args : List Operand} {ats : Array TypeId} {vs : List Value} {G : Type} {v : G → Value} {fs : G → Ctx} (hi : ops[i]? = some ⟨some d, .call ⟨.value (.func f), args.toArray, ats⟩, ty, pos, after, g⟩)
    (hw : Wants n ρ ops ⟨some d, .call ⟨.value (.func f), args.toArray, ats⟩, ty, pos, after, g⟩) (hf : ∀ args w, (callFunc f args).run P w = .ok (.enter f args) w) (hargs : evL ρ args = some vs)
    (hC : ∀ Δ, Ca P A w0 (Γ ++ Δ) f vs v (fun x => fs x ++ (Γ ++ Δ))) : PStep P n A w0 ops ρ Γ ⟨i, d, G, v, fs⟩ := by
  intro Δ Q a w K hs hh hK
  unfold wpOp
  simp only [hi, hw a hs, if_true]
  refine .inl ?_
  have hrun : (execOp a.eval ⟨some d, .call ⟨.value (.func f), args.toArray, ats⟩, ty, pos, after, g⟩).run P w = .ok (.enter f vs.toArray) w := by
    simp [execOp, resolve, Act.eval, Deferred.ofValue, invoke, hs.evalL hargs, hf]
  unfold Oper.wp
  rw [hrun, Oper.upon_enter]
  refine (hC Δ w hh).mono ?_
  rintro e w' ⟨x, rfl, hh', hgr, hno⟩
  exact hK x w' hh' hgr hno
end

section
variable {R S S' G G' : Type} {n : Fr} {A : Nat → Prop} {w0 : World} {Q : R → Exit → Act → World → Prop} {ρ : Env} {Γ : Ctx} {E : Option R}
/-- A return out of a loop of a body that is walked in place: what comes behind the call is handed on. -/
theorem N_round_reti {id : Nat} {ρs : S → G → Env} {Γs : S → G → Ctx} {ρe : S' → G' → Env} {Γe : S' → G' → Ctx} {fa : S' → Option R} (h : N n A w0 Q .ret ρ Γ E) :
    N n A w0 (QRound n A w0 id Q ρs Γs ρe Γe (Out.elim fa (fun (r : Option R) => r))) .ret ρ Γ (some (.inr (.ret E))) := N_round_ret h
end
section
variable {R : Type} {P : Program} {n : Fr} {A : Nat → Prop} {w0 w : World} {Q : R → Exit → Act → World → Prop} {ρ ρ' : Env} {Γ Γ' : Ctx} {E : Option R}
variable {ty : TypeId} {pos : String} {after : Array Edge} {g : Option (Nat × Bool)}
/-- A function value that is known, walked in place. -/
theorem JL_inlinev {ops : Array Oper} {rest : List Oper} {d : Nat} {o : Operand} {f : FuncId} {fn : Func} {body : Code} {n' : Nat} {args : List Operand} {ats : Array TypeId} {vs caps : List Value}
    (hw : Wants n ρ ops ⟨some d, .call ⟨.value o, args.toArray, ats⟩, ty, pos, after, g⟩) (hd : Nat.blt d n.n = true)
    (hf : ∀ args w, (callFunc f args).run P w = .ok (.enter f args) w) (ho : ev ρ o = some (.func (.func f) #[] caps.toArray)) (hargs : evL ρ args = some vs) (hfn : P.funcs[f]? = some fn) (hb : fn.body = some body) (hn : fn.ntmps = n') (hl : Nat.ble (vs ++ caps).length n' = true) (hρ : enum 0 (vs ++ caps) = ρ')
    (h : ∀ K : R → Value → World → Prop, Behind P n A w0 ops rest Q d ρ K → J P ⟨n', [], none⟩ A w0 body (QInl P fn K) ρ' Γ E) : JL P n A w0 ops (⟨some d, .call ⟨.value o, args.toArray, ats⟩, ty, pos, after, g⟩ :: rest) Q ρ Γ E := by
  intro r hr a w hs hh
  refine wpList_step fun K hK => ?_
  rw [hw a hs]
  simp only [if_true]
  unfold Oper.wp
  rw [run_callv hs hf ho hargs, Oper.upon_enter]
  refine (calls_wp hfn hb (R := fun e w' => ∃ u, e = .returned u ∧ wpList P ops (noP (Q r)) rest (a.put (some d) u) w') ?_).mono ?_
  · have hJ := h (fun r u w' => wpList P ops (noP (Q r)) rest (a.put (some d) u) w') (fun u Γ' E' hJL r hE w hw' => hJL r hE _ w (hs.put (by simpa [Nat.blt_eq] using hd)) hw')
    refine hJ r hr _ w ⟨?_, rfl, ?_⟩ hh
    · simp [Nat.ble_eq] at hl
      simp [hn]; omega
    · intro t u ht
      rw [← hρ] at ht
      obtain ⟨_, h2⟩ := enum_get (vs ++ caps) 0 t u ht
      have h2' : (vs ++ caps)[t]? = some u := by simpa using h2
      have hlt : t < (vs ++ caps).length := (List.getElem?_eq_some_iff.1 h2').1
      simp only [Nat.ble_eq] at hl
      refine ⟨?_, show t < n' by omega⟩
      have hlt' : t < ((vs ++ caps).toArray).size := by simpa using hlt
      rw [Array.getD_eq_getD_getElem?, Array.getElem?_append_left hlt']
      simp only [List.getElem?_toArray, h2', Option.getD_some]
  · rintro e w' ⟨u, rfl, hu⟩
    exact hK _ _ hu
end
end Go.Tc
namespace Go.Tc
open Go Go.RowKit

/-! ### Maps as lists of entries -/
section
variable {κ ν : Type} [DecidableEq κ]
def mget : List (κ × ν) → κ → Option ν
  | [], _ => none
  | (a, v) :: r, k => if a = k then some v else mget r k
def mput : List (κ × ν) → κ → ν → List (κ × ν)
  | [], k, v => [(k, v)]
  | (a, u) :: r, k, v => if a = k then (a, v) :: r else (a, u) :: mput r k v
@[simp] theorem mget_nil (k : κ) : mget ([] : List (κ × ν)) k = none := rfl
theorem mget_mput (m : List (κ × ν)) (k k' : κ) (v : ν) : mget (mput m k v) k' = if k = k' then some v else mget m k' := by
  induction m with
  | nil => simp [mput, mget]
  | cons p r ih =>
    obtain ⟨a, u⟩ := p
    simp only [mput]
    by_cases h : a = k
    · subst h
      simp only [if_true, mget]
      split <;> simp_all
    · simp only [if_neg h, mget, ih]
      by_cases h2 : a = k'
      · subst h2
        have h3 : ¬ k = a := fun e => h e.symm
        simp [h3]
      · simp [h2]
end

/-- What is asked of a key's type. -/
structure KeyOk (P : Program) (K : TypeId) {κ : Type} (enc : κ → Value) : Prop where
  chk : ∀ (w : World) (em : Bool) (x : κ), (Instr.checkKey em 10000 K (enc x)).run P w = .ok () w
  now : ∃ d, P.underlying K = some d ∧ ((∀ x y : κ, Instr.sameNow d (enc x) (enc y) = none) ∨ ∀ x y : κ, ∃ b, Instr.sameNow d (enc x) (enc y) = some b ∧ (b = true ↔ x = y))
  eq : ∀ (w : World) (x y : κ), ∃ b, (Op.equal K (enc x) (enc y)).run P w = .ok b w ∧ (b = true ↔ x = y)
  bits : ∀ x : κ, Instr.sameBits 10000 (enc x) (enc x) = true

theorem run_getMap {P : Program} {w : World} {r : Nat} {es : Array MapEntry} {clock : Nat} (hb : w.heap[r]? = some (.map es clock)) : (getObj r).run P w = .ok (.map es clock) w := by simp [getObj, Sem.run, hb]
theorem run_setMap {P : Program} {w : World} {r : Nat} {es : Array MapEntry} {clock : Nat} (hb : w.heap[r]? = some (.map es clock)) (o : Obj) : (setObj r o).run P w = .ok () { w with heap := w.heap.setIfInBounds r o } := by simp [setObj, Sem.run, hb]
/-- The stamps of a map's entries are apart, and older than its clock. -/
def Stamps (es : Array MapEntry) (clock : Nat) : Prop := (es.toList.map (·.born)).Nodup ∧ ∀ e ∈ es.toList, e.born < clock
def MapIs {κ ν : Type} (enc : κ → Value) (venc : ν → Value) (b : Nat) (m : List (κ × ν)) (w : World) : Prop :=
  ∃ es clock, w.heap[b]? = some (.map es clock) ∧ es.toList.map (fun e => (e.key, e.val)) = m.map (fun p => (enc p.1, venc p.2)) ∧ Stamps es clock
/-- A map of the call's own. -/
def mpf {κ ν : Type} (enc : κ → Value) (venc : ν → Value) (b : Nat) (m : List (κ × ν)) : Fact := .inv [b] (MapIs enc venc b m)

section
variable {P : Program} {K : TypeId} {κ ν : Type} [DecidableEq κ] {enc : κ → Value} {venc : ν → Value}

theorem findAsking_spec (hk : KeyOk P K enc) (w : World) (x : κ) : ∀ (es : List MapEntry) (m : List (κ × ν)) (i : Nat), es.map (fun e => (e.key, e.val)) = m.map (fun p => (enc p.1, venc p.2)) →
    (Instr.findAsking K (enc x) es i).run P w = .ok none w ∧ mget m x = none ∨
    ∃ j e v, (Instr.findAsking K (enc x) es i).run P w = .ok (some (i + j, e.val)) w ∧ es[j]? = some e ∧ mget m x = some v ∧ e.val = venc v ∧ e.key = enc x ∧ ∀ v', mput m x v' = m.set j (x, v')
  | [], m, i, h => by
    have : m = [] := by simpa using h.symm
    subst this
    left
    simp [Instr.findAsking, mget]
  | e :: es, [], i, h => by simp at h
  | e :: es, (a, u) :: m, i, h => by
    simp only [List.map_cons, List.cons.injEq, Prod.mk.injEq] at h
    obtain ⟨⟨h1, h2⟩, h3⟩ := h
    obtain ⟨b, hb, hbi⟩ := hk.eq w x a
    cases b with
    | true =>
      have e0 : x = a := hbi.1 rfl
      subst e0
      right
      refine ⟨0, e, u, ?_, rfl, by simp [mget], h2, h1, fun v' => by simp [mput]⟩
      simp [Instr.findAsking, h1, hb]
    | false =>
      have hne : ¬ a = x := fun e0 => by have := hbi.2 e0.symm; simp at this
      have hrun : (Instr.findAsking K (enc x) (e :: es) i).run P w = (Instr.findAsking K (enc x) es (i + 1)).run P w := by simp [Instr.findAsking, h1, hb]
      rcases findAsking_spec hk w x es m (i + 1) h3 with ⟨k1, k2⟩ | ⟨j, e', v, k1, k2, k3, k4, k5, k6⟩
      · left
        exact ⟨by rw [hrun, k1], by simp [mget, hne, k2]⟩
      · right
        refine ⟨j + 1, e', v, ?_, by simpa using k2, by simp [mget, hne, k3], k4, k5, fun v' => by simp [mput, hne, k6 v']⟩
        rw [hrun, k1, show i + 1 + j = i + (j + 1) by omega]
theorem findNow_spec' {d : TypeDesc} (hn : ∀ x y : κ, ∃ b, Instr.sameNow d (enc x) (enc y) = some b ∧ (b = true ↔ x = y)) (x : κ) : ∀ (es : List MapEntry) (m : List (κ × ν)) (i : Nat), es.map (fun e => (e.key, e.val)) = m.map (fun p => (enc p.1, venc p.2)) →
    Instr.findNow d (enc x) es i = some none ∧ mget m x = none ∨
    ∃ j e v, Instr.findNow d (enc x) es i = some (some (i + j, e.val)) ∧ es[j]? = some e ∧ mget m x = some v ∧ e.val = venc v ∧ e.key = enc x ∧ ∀ v', mput m x v' = m.set j (x, v')
  | [], m, i, h => by
    have : m = [] := by simpa using h.symm
    subst this
    left
    simp [Instr.findNow, mget]
  | e :: es, [], i, h => by simp at h
  | e :: es, (a, u) :: m, i, h => by
    simp only [List.map_cons, List.cons.injEq, Prod.mk.injEq] at h
    obtain ⟨⟨h1, h2⟩, h3⟩ := h
    obtain ⟨b, hb, hbi⟩ := hn x a
    cases b with
    | true =>
      have e0 : x = a := hbi.1 rfl
      subst e0
      right
      refine ⟨0, e, u, ?_, rfl, by simp [mget], h2, h1, fun v' => by simp [mput]⟩
      simp [Instr.findNow, h1, hb]
    | false =>
      have hne : ¬ a = x := fun e0 => by have := hbi.2 e0.symm; simp at this
      have hrun : Instr.findNow d (enc x) (e :: es) i = Instr.findNow d (enc x) es (i + 1) := by simp [Instr.findNow, h1, hb]
      rcases findNow_spec' hn x es m (i + 1) h3 with ⟨k1, k2⟩ | ⟨j, e', v, k1, k2, k3, k4, k5, k6⟩
      · left
        exact ⟨by rw [hrun, k1], by simp [mget, hne, k2]⟩
      · right
        refine ⟨j + 1, e', v, ?_, by simpa using k2, by simp [mget, hne, k3], k4, k5, fun v' => by simp [mput, hne, k6 v']⟩
        rw [hrun, k1, show i + 1 + j = i + (j + 1) by omega]
theorem findKey_spec (hk : KeyOk P K enc) (w : World) (x : κ) (es : List MapEntry) (m : List (κ × ν)) (h : es.map (fun e => (e.key, e.val)) = m.map (fun p => (enc p.1, venc p.2))) :
    (Instr.findKey K (enc x) es).run P w = .ok none w ∧ mget m x = none ∨
    ∃ j e v, (Instr.findKey K (enc x) es).run P w = .ok (some (j, e.val)) w ∧ es[j]? = some e ∧ mget m x = some v ∧ e.val = venc v ∧ e.key = enc x ∧ ∀ v', mput m x v' = m.set j (x, v') := by
  obtain ⟨d, hd, hn | hn⟩ := hk.now
  · cases es with
    | nil =>
      have : m = [] := by simpa using h.symm
      subst this
      left
      simp [Instr.findKey, Instr.findNow, run_underlying hd, mget]
    | cons e es =>
      cases m with
      | nil => simp at h
      | cons p m =>
        have h0 : e.key = enc p.1 := by simp at h; exact h.1.1
        have hf : Instr.findNow d (enc x) (e :: es) 0 = none := by simp [Instr.findNow, h0, hn]
        have hr : (Instr.findKey K (enc x) (e :: es)).run P w = (Instr.findAsking K (enc x) (e :: es) 0).run P w := by simp [Instr.findKey, run_underlying hd, hf]
        rcases findAsking_spec hk w x (e :: es) (p :: m) 0 h with ⟨k1, k2⟩ | ⟨j, e', v, k1, k2⟩
        · exact .inl ⟨by rw [hr, k1], k2⟩
        · exact .inr ⟨j, e', v, by rw [hr, k1, Nat.zero_add], k2⟩
  · rcases findNow_spec' (ν := ν) (venc := venc) hn x es m 0 h with ⟨k1, k2⟩ | ⟨j, e', v, k1, k2⟩
    · exact .inl ⟨by simp [Instr.findKey, run_underlying hd, k1], k2⟩
    · exact .inr ⟨j, e', v, by simp [Instr.findKey, run_underlying hd, k1], k2⟩
end

section
variable {R : Type} {P : Program} {n : Fr} {A : Nat → Prop} {w0 : World} {Q : R → Exit → Act → World → Prop} {ρ ρ' : Env} {Γ Γ' : Ctx} {E : Option R}
variable {d : Option Nat} {ty : TypeId} {pos : String} {after : Array Edge} {g : Option (Nat × Bool)}
variable {κ ν : Type} {enc : κ → Value} {venc : ν → Value}

theorem SH.map {w : World} {b : Nat} {m : List (κ × ν)} (h : SH A w0 w Γ) (i : Nat) (hi : Γ[i]? = some (mpf enc venc b m)) : MapIs enc venc b m w := h.get i hi w fun _ _ => rfl
theorem st_makeMap {t : TypeId} : St P n A w0 ρ Γ ⟨d, .makeMap t none, ty, pos, after, g⟩ (fun b : Nat => .map (some b)) (fun b => mpf enc venc b ([] : List (κ × ν)) :: Γ) [] := by
  intro a w hs hh
  refine ⟨w.heap.size, w.alloc (.map #[] 0), ?_, ?_, Grow.alloc w _ _, .cons (by simp [mpf, Fact.owns])⟩
  · simp [execOp, Instr.makeMap]
  · refine hh.cons (Grow.alloc w _ []) (by simp [mpf, Fact.owns]) (by simp [mpf, Fact.owns]) ?_
    intro w' hw'
    refine ⟨#[], 0, ?_, rfl, by simp [Stamps]⟩
    rw [hw' _ (by simp)]
    exact heap_alloc_new w _
variable [DecidableEq κ]
theorem ex_lookup {mo ko : Operand} {t k e : TypeId} {b : Nat} {m : List (κ × ν)} {x : κ} {z : ν} {mv kv : Value} (i : Nat) (hk : KeyOk P k enc) (ht : P.underlying t = some (.map k e)) (hz : zinf P e = some (venc z)) (hm : ev ρ mo = some mv) (hmv : mv = .map (some b)) (hx : ev ρ ko = some kv) (hkv : kv = enc x) (hi : Γ[i]? = some (mpf enc venc b m)) :
    Ex P n A w0 ρ Γ ⟨d, .lookup t mo ko false, ty, pos, after, g⟩ (venc ((mget m x).getD z)) := by
  intro a w hs hh
  subst hmv hkv
  obtain ⟨es, clock, hb, he, _⟩ := hh.map i hi
  rcases findKey_spec hk w x es.toList m he with ⟨k1, k2⟩ | ⟨j, e', v, k1, k2, k3, k4, k5, k6⟩
  · simp [execOp, hs.eval hm, hs.eval hx, Instr.lookup, run_underlying ht, run_getMap hb, hk.chk, k1, k2, run_zinf hz]
  · simp [execOp, hs.eval hm, hs.eval hx, Instr.lookup, run_underlying ht, run_getMap hb, hk.chk, k1, k3, k4]
theorem sk_mapUpdate {mo ko vo : Operand} {t k e : TypeId} {b : Nat} {m : List (κ × ν)} {x : κ} {y : ν} {mv kv vv : Value} (i : Nat) (hk : KeyOk P k enc) (ht : P.underlying t = some (.map k e)) (hm : ev ρ mo = some mv) (hmv : mv = .map (some b)) (hx : ev ρ ko = some kv) (hkv : kv = enc x) (hy : ev ρ vo = some vv) (hvv : vv = venc y) (hi : Γ[i]? = some (mpf enc venc b m)) (hΓ : Γ.set i (mpf enc venc b (mput m x y)) = Γ') :
    Sk P n A w0 ρ Γ ⟨d, .mapUpdate t mo ko vo, ty, pos, after, g⟩ Γ' [b] := by
  intro a w hs hh
  subst hmv hkv hvv hΓ
  obtain ⟨es, clock, hb, he, hst⟩ := hh.map i hi
  have hlt : b < w.heap.size := lt_of_some hb
  have key : ∃ es' clock', (execOp a.eval ⟨d, .mapUpdate t mo ko vo, ty, pos, after, g⟩).run P w = .ok .skip { w with heap := w.heap.setIfInBounds b (.map es' clock') } ∧
      es'.toList.map (fun e => (e.key, e.val)) = (mput m x y).map (fun p => (enc p.1, venc p.2)) ∧ Stamps es' clock' := by
    rcases findKey_spec hk w x es.toList m he with ⟨k1, k2⟩ | ⟨j, e', v, k1, k2, k3, k4, k5, k6⟩
    · refine ⟨es.push { key := enc x, val := venc y, born := clock }, clock + 1, ?_, ?_, ?_⟩
      · simp [execOp, hs.eval hm, hs.eval hx, hs.eval hy, Instr.mapUpdate, run_underlying ht, run_getMap hb, hk.chk, k1, run_setMap hb]
      · have hp : ∀ (l : List (κ × ν)), mget l x = none → mput l x y = l ++ [(x, y)] := by
          intro l
          induction l with
          | nil => intro _; rfl
          | cons p r ih =>
            obtain ⟨a, u⟩ := p
            intro h
            simp only [mget] at h
            split at h
            · simp at h
            · rename_i hne
              simp [mput, hne, ih h]
        rw [hp m k2]
        simp [he]
      · refine ⟨?_, fun e hm => ?_⟩
        · simp only [Array.toList_push, List.map_append, List.map_cons, List.map_nil]
          rw [List.nodup_append]
          refine ⟨hst.1, by simp, fun a ha c hc e => ?_⟩
          rw [List.mem_singleton.1 hc] at e
          obtain ⟨e', he', rfl⟩ := List.mem_map.1 ha
          have := hst.2 e' he'
          omega
        · simp only [Array.toList_push, List.mem_append, List.mem_singleton] at hm
          rcases hm with hm | rfl
          · have := hst.2 e hm
            omega
          · simp only; omega
    · refine ⟨es.modify j fun e => { e with key := enc x, val := venc y }, clock, ?_, ?_, ?_⟩
      · have k2' : es[j]? = some e' := by simpa using k2
        simp [execOp, hs.eval hm, hs.eval hx, hs.eval hy, Instr.mapUpdate, run_underlying ht, run_getMap hb, hk.chk, k1, k2', k5, Instr.keyThatStays, hk.bits, run_setMap hb]
      · rw [k6]
        simp only [Array.toList_modify]
        apply List.ext_getElem?
        intro i
        have hh := congrArg (fun l => l[i]?) he
        simp only [List.getElem?_map] at hh
        simp only [List.getElem?_map, List.getElem?_modify, List.getElem?_set]
        by_cases hij : j = i
        · subst hij
          rw [k2] at hh ⊢
          have hl : j < m.length := by
            have := congrArg List.length he
            simp at this
            have := (List.getElem?_eq_some_iff.1 k2).1
            simp at this
            omega
          simp [hl]
        · simp [hij]
          simpa using hh
      · have hb' : (es.modify j fun e => { e with key := enc x, val := venc y }).toList.map (·.born) = es.toList.map (·.born) := by
          simp only [Array.toList_modify]
          apply List.ext_getElem?
          intro i
          simp only [List.getElem?_map, List.getElem?_modify]
          by_cases hij : j = i
          · simp [hij]
            cases es[i]? <;> rfl
          · simp [hij]
        refine ⟨by rw [hb']; exact hst.1, fun e hm => ?_⟩
        have : e.born ∈ es.toList.map (·.born) := by rw [← hb']; exact List.mem_map_of_mem hm
        obtain ⟨e2, h2, h3⟩ := List.mem_map.1 this
        rw [← h3]
        exact hst.2 e2 h2
  obtain ⟨es', clock', hrun, hes, hst'⟩ := key
  have hgr : Grow w { w with heap := w.heap.setIfInBounds b (.map es' clock') } [b] := by
    refine ⟨rfl, rfl, rfl, by simp, fun k _ hk => ?_⟩
    have : b ≠ k := fun e => hk (by simp [e])
    simp [this]
  refine ⟨_, hrun, ?_, hgr, .set hi (fun c hc => .inl hc)⟩
  refine hh.set hi hgr (by simp [mpf, Fact.owns]) (fun c hc => ?_) ?_
  · simp [mpf, Fact.owns] at hc
    subst hc
    exact ⟨.inl (by simp [mpf, Fact.owns]), by simpa using hlt⟩
  · intro w' hw'
    refine ⟨es', clock', ?_, hes, hst'⟩
    rw [hw' b (by simp)]
    simp [hlt]
end
section
variable {R : Type} {P : Program} {n : Fr} {A : Nat → Prop} {w0 : World} {Q : R → Exit → Act → World → Prop} {ρ ρ' : Env} {Γ Γ' : Ctx} {E : Option R}
variable {d : Option Nat} {ty : TypeId} {pos : String} {after : Array Edge} {g : Option (Nat × Bool)}
end

/-! ### A call walked in place, among orders -/
/-- It owns nothing, or tells all of what it owns. -/
def Fact.exact : Fact → Bool
  | .bx _ _ _ => true
  | @Fact.rd _ _ _ _ => true
  | @Fact.pt _ _ _ _ => true
  | @Fact.pa _ _ _ _ => true
  | @Fact.tkn _ _ _ _ _ => true
  | .pr _ => true
  | .fz _ _ => true
  | _ => false
theorem Fact.exact_same {A A' : Nat → Prop} {B B' : Nat} {w w' : World} {f : Fact} (he : f.exact = true) (h : f.holds A B w) (h' : f.holds A' B' w') : ∀ b ∈ f.owns, w'.heap[b]? = w.heap[b]? := by
  intro b hb
  cases f with
  | bx c t cs =>
    simp [Fact.owns] at hb
    subst hb
    have e1 : w.heap[b]? = some (.cells cs.toArray t (0, 0)) := h
    have e2 : w'.heap[b]? = some (.cells cs.toArray t (0, 0)) := h'
    rw [e1, e2]
  | _ => simp_all [Fact.owns, Fact.exact]
def Fact.light : Fact → Bool
  | .bx _ _ _ => false
  | f => f.exact
theorem Fact.light_owns {f : Fact} (h : f.light = true) : f.owns = [] := by
  cases f <;> first | rfl | simp [Fact.light, Fact.exact] at h
/-- What is not known to be owned. -/
def Cw (w0 w1 : World) (Γ1 : Ctx) : Nat → Prop := fun k => w0.heap.size ≤ k ∧ k < w1.heap.size ∧ k ∉ Γ1.owns
section
variable {R : Type} {P : Program} {n : Fr} {A : Nat → Prop} {w0 w1 : World} {Q : R → Exit → Act → World → Prop} {ρ ρ' : Env} {Γ Γ' Γ1 : Ctx} {E : Option R} {ops : Array Oper} {O : List Nat} {fuel : Nat} {listed : Array Bool}
variable {ty : TypeId} {pos : String} {after : Array Edge} {g : Option (Nat × Bool)}
def BehindD (P : Program) (n : Fr) (A : Nat → Prop) (w0 w1 : World) (Γ1 : Ctx) (ops : Array Oper) (O : List Nat) (fuel : Nat) (listed : Array Bool) (Q : R → Exit → Act → World → Prop) (i d : Nat) (ρ : Env) (is1 : List Nat) (C : Nat → Prop) (K : R → Value → World → Prop) : Prop :=
  ∀ u Γ' E' (p : Nat) (is2 : List Nat), Γ'[p]? = some (.fz w1 C) → sel is2 Γ' = sel is1 Γ1 → JD P n A w0 w1 Γ1 ops O fuel (listed.setIfInBounds i true) Q ((d, u) :: ρ) Γ' E' → ∀ r, E' = some r → ∀ w, SH A w0 w Γ' → K r u w
theorem inline_grow (h1 : SH A w0 w1 Γ1) (js is1 is2 : List Nat) (hcov : (List.range Γ1.length).all (fun i => (js ++ is1).any (Nat.beq i) || (Γ1[i]?).all Fact.light) = true) (hO : (sel js Γ1).owns = O) (hex : (sel is1 Γ1).all Fact.exact = true)
    {w' : World} {p : Nat} (hp : Γ'[p]? = some (.fz w1 (Cw w0 w1 Γ1))) (hsel : sel is2 Γ' = sel is1 Γ1) (h : SH A w0 w' Γ') : Grow w1 w' O ∧ OwnNew Γ1 Γ' w1 := by
  have hf := h.get p hp
  constructor
  · refine ⟨h.below.os.trans h1.below.os.symm, h.below.tape.trans h1.below.tape.symm, h.below.output.trans h1.below.output.symm, hf.1, fun k hk hkO => ?_⟩
    by_cases h0 : k < w0.heap.size
    · rw [h.below.block k h0, h1.below.block k h0]
    · by_cases hown : k ∈ Γ1.owns
      · obtain ⟨f, hfm, hkf⟩ := List.mem_flatMap.1 hown
        obtain ⟨i, hi⟩ := List.mem_iff_getElem?.1 hfm
        have hlt : i < Γ1.length := (List.getElem?_eq_some_iff.1 hi).1
        have hc := List.all_eq_true.1 hcov i (List.mem_range.2 hlt)
        rcases Bool.or_eq_true _ _ ▸ hc with hc | hc
        rotate_left
        · rw [hi] at hc
          rw [Fact.light_owns (by simpa using hc)] at hkf
          simp at hkf
        obtain ⟨j, hj, hij⟩ := List.any_eq_true.1 hc
        have hij' : i = j := Nat.eq_of_beq_eq_true hij
        subst hij'
        have selmem : ∀ (l : List Nat), i ∈ l → f ∈ sel l Γ1 := by
          intro l
          induction l with
          | nil => intro h; simp at h
          | cons a l ih =>
            intro h
            simp only [sel]
            rcases List.mem_cons.1 h with rfl | h
            · rw [hi]; simp
            · split
              · exact List.mem_cons_of_mem _ (ih h)
              · exact ih h
        rcases List.mem_append.1 hj with hj | hj
        · exact absurd (by rw [← hO]; exact List.mem_flatMap.2 ⟨f, selmem _ hj, hkf⟩) hkO
        · have hm := selmem _ hj
          have he := List.all_eq_true.1 hex f hm
          rw [← hsel] at hm
          obtain ⟨q, _, hq⟩ := sel_mem is2 Γ' f hm
          exact Fact.exact_same he (h1.all f hfm) (h.all f (List.mem_of_getElem? hq)) k hkf
      · exact (hf.2 k ⟨by omega, hk, hown⟩).2.2
  · intro b hb
    by_cases hb1 : b < w1.heap.size
    · left
      refine Classical.byContradiction fun hn => ?_
      exact (hf.2 b ⟨(h.ge b hb).1, hb1, hn⟩).1 (.inr hb)
    · right; omega
theorem JO_inline {i d : Nat} {f : FuncId} {fn : Func} {body : Code} {n' : Nat} {args : List Operand} {ats : Array TypeId} {vs : List Value} (h1 : SH A w0 w1 Γ1) (js is1 : List Nat)
    (hcov : (List.range Γ1.length).all (fun i => (js ++ is1).any (Nat.beq i) || (Γ1[i]?).all Fact.light) = true) (hO : (sel js Γ1).owns = O) (hex : (sel is1 Γ1).all Fact.exact = true)
    (hi : ops[i]? = some ⟨some d, .call ⟨.value (.func f), args.toArray, ats⟩, ty, pos, after, g⟩) (hw : Wants n ρ ops ⟨some d, .call ⟨.value (.func f), args.toArray, ats⟩, ty, pos, after, g⟩) (hd : Nat.blt d n.n = true)
    (hf : ∀ args w, (callFunc f args).run P w = .ok (.enter f args) w) (hargs : evL ρ args = some vs) (hfn : P.funcs[f]? = some fn) (hb : fn.body = some body) (hn : fn.ntmps = n') (hl : Nat.ble vs.length n' = true) (hρ : enum 0 vs = ρ')
    (h : ∀ (C : Nat → Prop) (K : R → Value → World → Prop), BehindD P n A w0 w1 Γ1 ops O fuel listed Q i d ρ is1 C K → J P ⟨n', [], none⟩ A w0 body (QInl P fn K) ρ' (.fz w1 C :: Γ) E) : JO P n A w0 w1 Γ1 ops O fuel listed Q i ρ Γ E := by
  intro r hr' a w hsa hh hg hon
  unfold wpOp
  simp only [hi, hw a hsa, if_true]
  refine .inl ?_
  have hrun : (execOp a.eval ⟨some d, .call ⟨.value (.func f), args.toArray, ats⟩, ty, pos, after, g⟩).run P w = .ok (.enter f vs.toArray) w := by
    simp [execOp, resolve, Act.eval, Deferred.ofValue, invoke, hsa.evalL hargs, hf]
  unfold Oper.wp
  rw [hrun, Oper.upon_enter]
  have hfz : SH A w0 w (.fz w1 (Cw w0 w1 Γ1) :: Γ) := by
    refine hh.cons (Grow.refl w []) (by simp [Fact.owns]) (by simp [Fact.owns]) ⟨hg.size, fun k hk => ⟨?_, Nat.lt_of_lt_of_le hk.2.1 hg.size, ?_⟩⟩
    · rintro (hk' | hk')
      · have := hh.av k hk'
        have := hk.1
        omega
      · simp only [Ctx.owns, List.flatMap_cons, Fact.owns, List.nil_append] at hk'
        rcases hon k hk' with h' | h'
        · exact hk.2.2 h'
        · have := hk.2.1
          omega
    · refine hg.block k hk.2.1 fun hkO => hk.2.2 ?_
      rw [← hO] at hkO
      obtain ⟨f, hfm, hkf⟩ := List.mem_flatMap.1 hkO
      obtain ⟨q, _, hq⟩ := sel_mem js Γ1 f hfm
      exact List.mem_flatMap.2 ⟨f, List.mem_of_getElem? hq, hkf⟩
  refine (calls_wp hfn hb (R := fun e w' => ∃ u, e = .returned u ∧ (Grow w1 w' O ∧ wpAnyH P .any ops (noP (Q r)) (fun w' => Grow w1 w' O) fuel (listed.setIfInBounds i true) (a.put (some d) u) w')) ?_).mono ?_
  · have hJ := h (Cw w0 w1 Γ1) (fun r u w' => Grow w1 w' O ∧ wpAnyH P .any ops (noP (Q r)) (fun w' => Grow w1 w' O) fuel (listed.setIfInBounds i true) (a.put (some d) u) w') (fun u Γ' E' p is2 hp hsel hJD r hE w' hw' => by
      obtain ⟨hgr, hno⟩ := inline_grow h1 js is1 is2 hcov hO hex hp hsel hw'
      exact ⟨hgr, hJD r hE _ w' (hsa.put (by simpa [Nat.blt_eq] using hd)) hw' hgr hno⟩)
    refine hJ r hr' _ w ⟨?_, rfl, ?_⟩ hfz
    · simp [Nat.ble_eq] at hl
      simp [hn]; omega
    · intro t u ht
      rw [← hρ] at ht
      obtain ⟨_, h2⟩ := enum_get vs 0 t u ht
      simp at h2
      have hlt : t < vs.length := (List.getElem?_eq_some_iff.1 h2).1
      simp [Nat.ble_eq] at hl
      refine ⟨?_, show t < n' by omega⟩
      simp [Array.getD_eq_getD_getElem?, Array.getElem?_append_left (show t < vs.toArray.size by simpa using hlt), h2]
  · rintro e w' ⟨u, rfl, hu⟩
    exact hu
theorem N_inlD1 {fn : Func} {n2 : Fr} {ρ2 : Env} {i d : Nat} {is1 : List Nat} {C : Nat → Prop} {K : R → Value → World → Prop} {rv : ResultVar} {u : Value} (hK : BehindD P n A w0 w1 Γ1 ops O fuel listed Q i d ρ is1 C K) (hres : fn.results = #[rv]) (hu : Rv P n2 A w0 ρ2 Γ rv u) (p : Nat) (is2 : List Nat) (hp : Γ[p]? = some (.fz w1 C)) (hsel : sel is2 Γ = sel is1 Γ1)
    (h : JD P n A w0 w1 Γ1 ops O fuel (listed.setIfInBounds i true) Q ((d, u) :: ρ) Γ E) (hds : n2.ds = [] := by rfl) : N n2 A w0 (QInl P fn K) .ret ρ2 Γ E := by
  intro r hr a w hs hh
  refine leaves0 (hs.defers.trans hds) ⟨u, ?_, _, rfl, hK _ _ _ p is2 hp hsel h r hr w hh⟩
  rw [results_rv, hres]
  simp [hu a w hs hh]
end

/-! ### Literals of structs with structs inside -/
inductive BldN (P : Program) (t : TypeId) : List Value → List (Nat × Value × List Value) → List Value → Prop
  | nil {cs : List Value} : BldN P t cs [] cs
  | cons {cs cs' cs'' vs : List Value} {i off s : Nat} {v : Value} {r : List (Nat × Value × List Value)} (hf : finf P t i = some (off, s)) (hlen : vs.length = s) (hfit : Nat.ble (off + vs.length) cs.length = true) (hs : cs.take off ++ vs ++ cs.drop (off + vs.length) = cs'') (h : BldN P t cs'' r cs') : BldN P t cs ((i, v, vs) :: r) cs'
def AllCN : List (Nat × Value × List Value) → Prop
  | [] => True
  | (_, v, vs) :: r => CV v vs ∧ AllCN r
theorem BldN.fill {P : Program} {t : TypeId} {places : Array (Nat × Nat)} (hp : ∀ i off s, finf P t i = some (off, s) → places[i]? = some (off, s)) :
    ∀ {cs : List Value} {parts : List (Nat × Value × List Value)} {cs' : List Value}, BldN P t cs parts cs' → AllCN parts → Instr.fill (places[·]?) cs.toArray (parts.map fun p => (p.1, p.2.1)) = some cs'.toArray := by
  intro cs parts cs' h
  induction h with
  | nil => intro _; simp [Instr.fill]
  | cons hf hlen hfit hs h ih =>
    rename_i cs cs' cs'' vs i off s v r
    rintro ⟨hv, hc⟩
    simp only [Nat.ble_eq] at hfit
    simp only [List.map_cons, Instr.fill, hp _ _ _ hf, hv.1]
    rw [if_neg (by simp; omega)]
    rw [← ih hc, ← hs]
    congr 1
    have hk := foldl_set vs (cs.take off) (cs.drop off) off (by simp; omega) (by simp; omega)
    rw [List.take_append_drop] at hk
    rw [hk]
    simp [List.drop_drop]
section
variable {P : Program} {n : Fr} {A : Nat → Prop} {w0 : World} {ρ : Env} {Γ : Ctx}
variable {d : Option Nat} {ty : TypeId} {pos : String} {after : Array Edge} {g : Option (Nat × Bool)}
theorem ex_buildN {t : TypeId} {zc cs' : List Value} {parts : List (Nat × Operand)} (vs : List (Nat × Value × List Value)) (hS : SInf P t zc) (hparts : evP ρ parts = some (vs.map fun p => (p.1, p.2.1))) (hb : BldN P t zc vs cs') (hc : ∀ w, SH A w0 w Γ → AllCN vs) :
    Ex P n A w0 ρ Γ ⟨d, .build t parts.toArray, ty, pos, after, g⟩ (.agg cs'.toArray) := by
  intro a w hs hh
  obtain ⟨fields, z, hu, hz, hzc, hall⟩ := hS.ex
  have hp : parts.toArray.map (fun p => (p.1, a.eval p.2)) = (vs.map fun p => (p.1, p.2.1)).toArray := by
    apply Array.ext'
    simp [hs.evalP hparts]
  have hplaces : ∀ i off s, finf P t i = some (off, s) → ((fields.toList.map (placeOf P)).toArray)[i]? = some (off, s) := by
    intro i off s hf
    unfold finf at hf
    rw [hu] at hf
    simp only at hf
    split at hf
    · rename_i fl hfl
      split at hf
      · rename_i s' b' ht
        simp at hf
        obtain ⟨rfl, rfl⟩ := hf
        simp [hfl, ht, placeOf]
      · simp at hf
    · simp at hf
  have hfill := BldN.fill hplaces hb (hc w hh)
  have hm := run_places (P := P) w fields.toList (List.all_eq_true.1 hall)
  have hrun : (Instr.build t (vs.map fun p => (p.1, p.2.1)).toArray).run P w = .ok (.agg cs'.toArray) w := by
    simp only [Instr.build, Sem.run_bind, run_zinf hz, Result.andThen_ok, run_underlying hu, hzc, Array.mapM_eq_mapM_toList, map_eq_pure_bind, hm, Sem.run_pure]
    simp only [hfill, Sem.run_pure]
  simp only [execOp, Sem.run_bind]
  rw [hp, hrun]
  rfl
end
def fixN {α R : Type} (step : (α → Option R) → α → Option R) : Nat → α → Option R
  | 0 => fun _ => none
  | k + 1 => step (fixN step k)
open Classical in
/-- What a function that calls itself computes. -/
noncomputable def fixR {α R : Type} (step : (α → Option R) → α → Option R) (a : α) : Option R :=
  if h : ∃ k r, fixN step k a = some r then fixN step h.choose a else none
theorem fixR_some {α R : Type} {step : (α → Option R) → α → Option R} {a : α} {r : R} (h : fixR step a = some r) : ∃ k, fixN step k a = some r := by
  unfold fixR at h
  split at h
  · exact ⟨_, h⟩
  · cases h
/-- More of the callee, more of the caller. -/
def Mono {α R : Type} (step : (α → Option R) → α → Option R) : Prop := ∀ f g : α → Option R, (∀ a r, f a = some r → g a = some r) → ∀ a r, step f a = some r → step g a = some r
theorem fixN_mono {α R : Type} {step : (α → Option R) → α → Option R} (hm : Mono step) : ∀ (k : Nat) (a : α) (r : R), fixN step k a = some r → fixN step (k + 1) a = some r
  | 0, _, _, h => by cases h
  | k + 1, a, r, h => hm _ _ (fixN_mono hm k) a r h
theorem fixN_le {α R : Type} {step : (α → Option R) → α → Option R} (hm : Mono step) {k m : Nat} (h : k ≤ m) {a : α} {r : R} (hr : fixN step k a = some r) : fixN step m a = some r := by
  induction h with
  | refl => exact hr
  | step _ ih => exact fixN_mono hm _ _ _ ih
theorem fixR_iff {α R : Type} {step : (α → Option R) → α → Option R} (hm : Mono step) {a : α} {r : R} : fixR step a = some r ↔ ∃ k, fixN step k a = some r := by
  refine ⟨fixR_some, ?_⟩
  rintro ⟨k, hk⟩
  unfold fixR
  have hex : ∃ k r, fixN step k a = some r := ⟨k, r, hk⟩
  rw [dif_pos hex]
  obtain ⟨r', hr'⟩ := hex.choose_spec
  rw [hr']
  have h1 := fixN_le hm (Nat.le_max_left k hex.choose) hk
  have h2 := fixN_le hm (Nat.le_max_right k hex.choose) hr'
  rw [h1] at h2
  exact h2.symm

/-! ### Keys that are structs of numbers -/
def ckFields (em : Bool) (n : Nat) (cs : Array Value) : List Field → Sem Unit
  | [] => pure ()
  | f :: fs =>
    if f.name ≠ "_" then do
      let a ← part f.type cs f.offset
      Instr.checkKey em n f.type a
      ckFields em n cs fs
    else ckFields em n cs fs
section
variable {P : Program} (w : World)
theorem run_checkKey_struct (em : Bool) (n : Nat) (t : TypeId) (cs : Array Value) (ht : P.underlying t = some (.struct (P.fieldsOf t))) :
    (Instr.checkKey em (n + 1) t (.agg cs)).run P w = (ckFields em n cs (P.fieldsOf t).toList).run P w := by
  simp only [Instr.checkKey, Sem.run_bind, run_underlying ht, Result.andThen_ok]
  rw [← Array.forIn_toList]
  generalize (P.fieldsOf t).toList = fs
  clear ht
  induction fs generalizing w with
  | nil => simp [ckFields]
  | cons f fs ih =>
    simp only [List.forIn_cons, ckFields, Sem.run_bind, Sem.run_ite]
    split
    · generalize (part f.type cs f.offset).run P w = r1
      cases r1 with
      | ok a w1 =>
        simp only [Result.andThen_ok]
        generalize (Instr.checkKey em n f.type a).run P w1 = r2
        cases r2 with
        | ok b w2 =>
          simp only [Result.andThen_ok, Sem.run_pure]
          exact ih w2
        | halt x w2 => simp [Result.andThen]
      | halt x w1 => simp [Result.andThen]
    · simp only [Sem.run_pure, Result.andThen_ok]
      exact ih w
theorem run_checkKey_int (em : Bool) (n : Nat) (t : TypeId) (k : IntKind) (v : Value) (h : P.underlying t = some (.int k)) : (Instr.checkKey em (n + 1) t v).run P w = .ok () w := by
  simp [Instr.checkKey, run_underlying h]
end
end Go.Tc
namespace Go.Tc
open Go Go.RowKit

/-- An int of a kind that is not the word's. -/
structure Ik (k : IntKind) where
  val : Int
deriving DecidableEq
instance {k : IntKind} : Rep (Ik k) where
  sz := 1
  agg := false
  rdc _ _ cs x := cs = [.int k x.val]
  len h := by subst h; rfl
  one h := by subst h; simp [Value.oneCell']
  pos := by decide
  single _ := rfl
  frame h _ := h
  dc _ cs x B := cs = [.int k x.val] ∧ B = []
  dcf h _ := h
  dcr h _ := h.1
  dlt h b hb := by simp [h.2] at hb
  flat := true
  flt _ h := ⟨h, rfl⟩
theorem Rd.ik {k : IntKind} {A : Nat → Prop} {w : World} {v : Value} {x : Ik k} (h : Rd A w v x) : v = .int k x.val := by
  obtain ⟨cs, rfl, h⟩ := h
  simp only [Rep.rdc] at h
  subst h; rfl
theorem opens_ik {k : IntKind} (y : Ik k) : Opens y (fun _ : Unit => .int k y.val) (fun _ => []) := fun _ _ _ _ h => ⟨(), h.ik, by simp⟩
def wk (k : IntKind) (n : Int) : Int := k.wrap n
section
variable {R : Type} {P : Program} {n : Fr} {A : Nat → Prop} {w0 : World} {Q : R → Exit → Act → World → Prop} {ρ ρ' : Env} {Γ Γ' : Ctx} {E : Option R}
variable {d : Option Nat} {ty : TypeId} {pos : String} {after : Array Edge} {g : Option (Nat × Bool)}
theorem ex_conv_ik {x : Operand} {s t : TypeId} {ds : TypeDesc} {k k' : IntKind} {m : Int} (hs' : P.underlying s = some ds) (ht : P.underlying t = some (.int k)) (hx : ev ρ x = some (.int k' m)) : Ex P n A w0 ρ Γ ⟨d, .convert s t x, ty, pos, after, g⟩ (.int k (wk k m)) := ex_conv_int hs' ht hx
end
/-! ### copy inside a row -/
section
variable {R : Type} {P : Program} {n : Fr} {A : Nat → Prop} {w0 w : World} {Q : R → Exit → Act → World → Prop} {ρ ρ' : Env} {Γ Γ' : Ctx} {E : Option R}
variable {d : Option Nat} {ty : TypeId} {pos : String} {after : Array Edge} {g : Option (Nat × Bool)}
end
/-! ### Parts of elements of an own row -/
theorem Part.trans {α β γ : Type} [Rep α] [Rep β] [Rep γ] {o o' : Nat} {x : α} {y : β} {z : γ} (h : Part o x y) (k : Part o' y z) : Part (o + o') x z := by
  intro A w cs hc
  obtain ⟨c, h1, h2⟩ := h A w cs hc
  obtain ⟨c', k1, k2⟩ := k A w c h2
  exact ⟨c', fun j u hj => by rw [Nat.add_assoc]; exact h1 _ _ (k1 j u hj), k2⟩
section
variable {R : Type} {P : Program} {n : Fr} {A : Nat → Prop} {w0 w : World} {Q : R → Exit → Act → World → Prop} {ρ ρ' : Env} {Γ Γ' : Ctx} {E : Option R}
variable {d : Option Nat} {ty : TypeId} {pos : String} {after : Array Edge} {g : Option (Nat × Bool)}
end
/-! ### Arithmetic of other kinds -/
def kand (k : IntKind) (x y : Int) : Int := k.wrap (((BitVec.ofInt k.bits x &&& BitVec.ofInt k.bits y).toNat : Nat) : Int)
section
variable {R : Type} {P : Program} {n : Fr} {A : Nat → Prop} {w0 : World} {Q : R → Exit → Act → World → Prop} {ρ ρ' : Env} {Γ Γ' : Ctx} {E : Option R}
variable {d : Option Nat} {ty : TypeId} {pos : String} {after : Array Edge} {g : Option (Nat × Bool)}
theorem ex_addk {k : IntKind} {x y : Operand} {t u : TypeId} {m l : Int} (hx : ev ρ x = some (.int k m)) (hy : ev ρ y = some (.int k l)) : Ex P n A w0 ρ Γ ⟨d, .binOp .add t x y u, ty, pos, after, g⟩ (.int k (wk k (m + l))) := by
  intro a w hs hh
  simp [execOp, hs.eval hx, hs.eval hy, eqGuard, binOp, Op.intArith, wk]
theorem ex_mulk {k : IntKind} {x y : Operand} {t u : TypeId} {m l : Int} (hx : ev ρ x = some (.int k m)) (hy : ev ρ y = some (.int k l)) : Ex P n A w0 ρ Γ ⟨d, .binOp .mul t x y u, ty, pos, after, g⟩ (.int k (wk k (m * l))) := by
  intro a w hs hh
  simp [execOp, hs.eval hx, hs.eval hy, eqGuard, binOp, Op.intArith, wk]
theorem ex_shrk {k : IntKind} {x y : Operand} {t u : TypeId} {m l : Int} {k' : IntKind} (hx : ev ρ x = some (.int k m)) (hy : ev ρ y = some (.int k' l)) (hl : 0 ≤ l) : Ex P n A w0 ρ Γ ⟨d, .binOp .shr t x y u, ty, pos, after, g⟩ (.int k (m.fdiv (2 ^ min l.toNat k.bits))) := by
  intro a w hs hh
  have : ¬ l < 0 := by omega
  simp [execOp, hs.eval hx, hs.eval hy, eqGuard, binOp, Op.shift, this]
theorem ex_andk {k : IntKind} {x y : Operand} {t u : TypeId} {m l : Int} (hx : ev ρ x = some (.int k m)) (hy : ev ρ y = some (.int k l)) : Ex P n A w0 ρ Γ ⟨d, .binOp .and t x y u, ty, pos, after, g⟩ (.int k (kand k m l)) := by
  intro a w hs hh
  simp [execOp, hs.eval hx, hs.eval hy, eqGuard, binOp, Op.intBits, kand]
end
end Go.Tc
