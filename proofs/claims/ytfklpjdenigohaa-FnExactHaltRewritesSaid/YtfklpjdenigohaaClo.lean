/-
  Function values that read only: made, handed on, called. No condition.
-/
import Derived.Test.YtfklpjdenigohaaDraw
namespace Go.Tc
open Go Go.RowKit
section
variable {R : Type} {P : Program} {n : Nat} {A : Nat → Prop} {w0 w : World} {Q : R → Exit → Act → World → Prop} {ρ ρ' : Env} {Γ Γ' : Ctx} {E : Option R}
variable {d : Option Nat} {ty : TypeId} {pos : String} {after : Array Edge} {g : Option (Nat × Bool)}

/-- A function value of one parameter that reads only and hands no memory out, in every world that has grown from w0. -/
def Clo (P : Program) (w0 : World) {α S : Type} [Rep α] (cv : Value) (φ : α → Option S) (val : S → Value) : Prop :=
  ∃ (f : FuncId) (caps : List Value), cv = .func (.func f) #[] caps.toArray ∧ (∀ args w, (callFunc f args).run P w = .ok (.enter f args) w) ∧
    ∀ w, Below w0.heap.size w0 w → ∀ (v : Value) (x : α) (r : S), Rd nowhere w v x → φ x = some r → Con P f (v :: caps) nowhere w (fun _ : Unit => val r) (fun _ => [])
theorem Clo.mk {α S : Type} [Rep α] {φ : α → Option S} {val : S → Value} {f : FuncId} {caps : List Value} (hf : ∀ args w, (callFunc f args).run P w = .ok (.enter f args) w)
    (h : ∀ w, Below w0.heap.size w0 w → ∀ (v : Value) (x : α) (r : S), Rd nowhere w v x → φ x = some r → Con P f (v :: caps) nowhere w (fun _ : Unit => val r) (fun _ => [])) : Clo P w0 (.func (.func f) #[] caps.toArray) φ val :=
  ⟨f, caps, rfl, hf, h⟩
theorem Clo.later {α S : Type} [Rep α] {cv : Value} {φ : α → Option S} {val : S → Value} (h : Clo P w0 cv φ val) (hb : Below w0.heap.size w0 w) : Clo P w cv φ val := by
  obtain ⟨f, caps, h1, h2, h3⟩ := h
  exact ⟨f, caps, h1, h2, fun w' hb' => h3 w' (hb.trans (hb'.mono hb.size))⟩
theorem RdA.later {α : Type} [Rep α] {w w' : World} {p : Value} {x : α} (h : RdA nowhere w.heap.size w p x) (hb : Below w.heap.size w w') : RdA nowhere w'.heap.size w' p x := by
  obtain ⟨b, off, cs, h1, h2, h3, h4⟩ := h
  exact ⟨b, off, cs, h1, Nat.lt_of_lt_of_le h2 hb.size, h3.frame (hb.block b h2), Rep.frame h4 fun k hk ha => ⟨hb.block k hk, ha⟩⟩
theorem SH.bx_pa1 {α : Type} [Rep α] {A' : Nat → Prop} {b : Nat} {t : TypeId} {c : Value} {x : α} (h : SH A w0 w Γ) (i : Nat) (hi : Γ[i]? = some (.bx b t [c])) (hx : Rd A' w c x) (ha : Rep.agg α = false) (hs : Rep.sz α = 1) : RdA A' w.heap.size w (.pointer (some ⟨b, 0, none⟩)) x := by
  have hb : w.heap[b]? = some (.cells #[c] t (0, 0)) := h.get i hi
  obtain ⟨cs', e, hr⟩ := hx
  have hl := Rep.len hr
  rw [hs] at hl
  match cs', hl with
  | [c'], _ =>
    simp only [Rep.val, ha, List.headD_cons] at e
    have e' : c = c' := by simpa using e
    subst e'
    refine ⟨b, 0, [c], rfl, ?_, ?_, hr⟩
    · exact (Array.getElem?_eq_some_iff.1 hb).1
    · intro j u hj
      rw [Nat.zero_add]
      exact cell_of_bx hb (by simpa using hj)
theorem ex_makeFunc {f : FuncId} {caps : List Operand} {vs : List Value} (hc : evL ρ caps = some vs) : Ex P n A w0 ρ Γ ⟨d, .makeFunc (.func f) #[] caps.toArray, ty, pos, after, g⟩ (.func (.func f) #[] vs.toArray) := by
  intro a w hs hh
  simp [execOp, Instr.makeFunc, hs.evalL hc]

theorem run_callv {a : Act} {d : Nat} {o : Operand} {f : FuncId} {args : List Operand} {ats : Array TypeId} {vs caps : List Value} (hs : Sat n ρ a)
    (hf : ∀ args w, (callFunc f args).run P w = .ok (.enter f args) w) (ho : ev ρ o = some (.func (.func f) #[] caps.toArray)) (hargs : evL ρ args = some vs) :
    (execOp a.eval ⟨some d, .call ⟨.value o, args.toArray, ats⟩, ty, pos, after, g⟩).run P w = .ok (.enter f (vs ++ caps).toArray) w := by
  simp [execOp, resolve, hs.eval ho, Deferred.ofValue, invoke, hs.evalL hargs, hf]
/-- A call of a function value that is known. -/
theorem JL_callv {ops : Array Oper} {rest : List Oper} {d : Nat} {o : Operand} {f : FuncId} {args : List Operand} {ats : Array TypeId} {vs caps : List Value} {G : Type} {v : G → Value} {Γ' : G → Ctx}
    (hw : Wants n ρ ops ⟨some d, .call ⟨.value o, args.toArray, ats⟩, ty, pos, after, g⟩) (hd : Nat.blt d n = true)
    (hf : ∀ args w, (callFunc f args).run P w = .ok (.enter f args) w) (ho : ev ρ o = some (.func (.func f) #[] caps.toArray)) (hargs : evL ρ args = some vs) (hC : Ca P A w0 Γ f (vs ++ caps) v Γ')
    (h : ∀ x, JL P n A w0 ops rest Q ((d, v x) :: ρ) (Γ' x) E) : JL P n A w0 ops (⟨some d, .call ⟨.value o, args.toArray, ats⟩, ty, pos, after, g⟩ :: rest) Q ρ Γ E := by
  intro r hr a w hs hh
  refine wpList_step fun K hK => ?_
  rw [hw a hs]
  simp only [if_true]
  unfold Oper.wp
  rw [run_callv hs hf ho hargs, Oper.upon_enter]
  refine (hC w hh).mono ?_
  rintro e w' ⟨x, rfl, hh', _⟩
  exact hK _ _ (h x r hr _ _ (hs.put (by simpa [Nat.blt_eq] using hd)) hh')
/-- What a call of a handed function value gives. -/
theorem Clo.ca {α S : Type} [Rep α] {cv v : Value} {φ : α → Option S} {val : S → Value} {y : α} {r : S} (hC : Clo P w0 cv φ val) (hrd : ∀ w, SH A w0 w Γ → Rd nowhere w v y) (hr : φ y = some r) :
    ∃ (f : FuncId) (caps : List Value), cv = .func (.func f) #[] caps.toArray ∧ (∀ args w, (callFunc f args).run P w = .ok (.enter f args) w) ∧ Ca P A w0 Γ f ([v] ++ caps) (fun _ : Unit => val r) (fun _ => Γ) := by
  obtain ⟨f, caps, h1, h2, h3⟩ := hC
  exact ⟨f, caps, h1, h2, Ca_of0 fun w hh => h3 w hh.below v y r (hrd w hh) hr⟩
theorem JL_clo {ops : Array Oper} {rest : List Oper} {d : Nat} {o a : Operand} {ats : Array TypeId} {α S : Type} [Rep α] {cv v : Value} {φ : α → Option S} {val : S → Value} {y : α} {r : S}
    (hw : Wants n ρ ops ⟨some d, .call ⟨.value o, #[a], ats⟩, ty, pos, after, g⟩) (hd : Nat.blt d n = true) (hC : Clo P w0 cv φ val) (ho : ev ρ o = some cv) (ha : ev ρ a = some v)
    (hrd : ∀ w, SH A w0 w Γ → Rd nowhere w v y) (hr : φ y = some r) (h : JL P n A w0 ops rest Q ((d, val r) :: ρ) Γ E) : JL P n A w0 ops (⟨some d, .call ⟨.value o, #[a], ats⟩, ty, pos, after, g⟩ :: rest) Q ρ Γ E := by
  obtain ⟨f, caps, rfl, hf, hca⟩ := hC.ca hrd hr
  exact JL_callv (args := [a]) hw hd hf ho (by simp [evL, ha]) hca (fun _ => h)
end
section
variable {R : Type} {P : Program} {n : Nat} {A : Nat → Prop} {w0 w1 : World} {Γ1 : Ctx} {ops : Array Oper} {O : List Nat} {fuel : Nat} {listed : Array Bool} {Q : R → Exit → Act → World → Prop} {ρ ρ' : Env} {Γ Γ' : Ctx} {E : Option R}
variable {ty : TypeId} {pos : String} {after : Array Edge} {g : Option (Nat × Bool)}
theorem JO_callv {i d : Nat} {o : Operand} {f : FuncId} {args : List Operand} {ats : Array TypeId} {vs caps : List Value} {G : Type} {v : G → Value} {Γ' : G → Ctx}
    (hi : ops[i]? = some ⟨some d, .call ⟨.value o, args.toArray, ats⟩, ty, pos, after, g⟩) (hw : Wants n ρ ops ⟨some d, .call ⟨.value o, args.toArray, ats⟩, ty, pos, after, g⟩) (hd : Nat.blt d n = true)
    (hf : ∀ args w, (callFunc f args).run P w = .ok (.enter f args) w) (ho : ev ρ o = some (.func (.func f) #[] caps.toArray)) (hargs : evL ρ args = some vs) (hC : Ca P A w0 Γ f (vs ++ caps) v Γ')
    (h : ∀ x, JD P n A w0 w1 Γ1 ops O fuel (listed.setIfInBounds i true) Q ((d, v x) :: ρ) (Γ' x) E) : JO P n A w0 w1 Γ1 ops O fuel listed Q i ρ Γ E := by
  intro r hr' a w hsa hh hg hon
  unfold wpOp
  simp only [hi, hw a hsa, if_true]
  refine .inl ?_
  unfold Oper.wp
  rw [run_callv hsa hf ho hargs, Oper.upon_enter]
  refine (hC w hh).mono ?_
  rintro e w' ⟨x, rfl, hh', hgr, hno⟩
  exact ⟨hg.more hgr (by simp), h x r hr' _ _ (hsa.put (by simpa [Nat.blt_eq] using hd)) hh' (hg.more hgr (by simp)) (hon.trans hg hno)⟩
theorem JO_clo {i d : Nat} {o a : Operand} {ats : Array TypeId} {α S : Type} [Rep α] {cv v : Value} {φ : α → Option S} {val : S → Value} {y : α} {r : S}
    (hi : ops[i]? = some ⟨some d, .call ⟨.value o, #[a], ats⟩, ty, pos, after, g⟩) (hw : Wants n ρ ops ⟨some d, .call ⟨.value o, #[a], ats⟩, ty, pos, after, g⟩) (hd : Nat.blt d n = true) (hC : Clo P w0 cv φ val) (ho : ev ρ o = some cv) (ha : ev ρ a = some v)
    (hrd : ∀ w, SH A w0 w Γ → Rd nowhere w v y) (hr : φ y = some r) (h : JD P n A w0 w1 Γ1 ops O fuel (listed.setIfInBounds i true) Q ((d, val r) :: ρ) Γ E) : JO P n A w0 w1 Γ1 ops O fuel listed Q i ρ Γ E := by
  obtain ⟨f, caps, rfl, hf, hca⟩ := hC.ca hrd hr
  exact JO_callv (args := [a]) hi hw hd hf ho (by simp [evL, ha]) hca (fun _ => h)
end
end Go.Tc
