/-
  The calculus, further: calls and contracts, slices of the call's own, returns. No condition.
-/
import Derived.Test.YtfklpjdenigohaaOps
namespace Go.Tc
open Go Go.RowKit

section
variable {A : Nat → Prop} {w0 w w' : World} {Γ Γ' Δ : Ctx}

/-! ### Facts handed out -/
theorem SH.rd {α : Type} [Rep α] {v : Value} {x : α} (h : SH A w0 w Γ) (i : Nat) (hi : Γ[i]? = some (.rd v x)) : Rd (fun k => A k ∨ k ∈ Γ.owns) w v x := h.get i hi
theorem Rd.weak {α : Type} [Rep α] {A A' : Nat → Prop} {w : World} {v : Value} {x : α} (h : Rd A w v x) (hA : ∀ k, A' k → A k) : Rd A' w v x := h.frame fun k _ ha => ⟨rfl, fun hk => ha (hA k hk)⟩
def nowhere : Nat → Prop := fun _ => False
theorem SH.rd0 {α : Type} [Rep α] {v : Value} {x : α} (h : SH A w0 w Γ) (i : Nat) (hi : Γ[i]? = some (.rd v x)) : Rd nowhere w v x := (h.rd i hi).weak fun _ hk => hk.elim
theorem RdL.weak {α : Type} [Rep α] {A A' : Nat → Prop} {w : World} {cs : List Value} {xs : List α} (h : RdL A w cs xs) (hA : ∀ k, A' k → A k) : RdL A' w cs xs := RdL.frame (fun k _ ha => ⟨rfl, fun hk => ha (hA k hk)⟩) xs cs h
/-- A row of the call's own, read. -/
theorem Ow.rdS {α : Type} [Rep α] {A A' : Nat → Prop} {e : TypeId} {v : Value} {xs : List α} (h : Ow A w e v xs) (hA : ∀ k, A' k → A k) (hb : ∀ b, v.ownBlock = some b → ¬ A' b) : RdS A' w v xs := by
  obtain ⟨cells, ⟨hl, hown⟩, hr⟩ := h
  rcases hown with ⟨rfl, h0⟩ | ⟨g, cap, cur, rfl, _, hg, hnc, hcm, hcs, htake⟩
  · have hx : xs = [] := List.eq_nil_of_length_eq_zero h0
    subst hx
    exact RdS.nil
  · refine .inr ⟨g, 0, cap, cells, rfl, hb g rfl, lt_of_some hg, hnc, hcm, fun j u hj => ?_, hr.weak hA⟩
    rw [← htake, List.getElem?_take] at hj
    split at hj
    · simpa [World.cell?, hg] using hj
    · simp at hj
theorem SH.ow0 {α : Type} [Rep α] {e : TypeId} {v : Value} {xs : List α} (h : SH A w0 w Γ) (i : Nat) (hi : Γ[i]? = some (.ow e v xs)) : Rd nowhere w v xs :=
  .mk_sl (Ow.rdS (h.get i hi) (fun _ hk => hk.elim) (fun _ _ hk => hk.elim))
/-- From now on it is only read. -/
theorem SH.freeze {α : Type} [Rep α] {e : TypeId} {v : Value} {xs : List α} (h : SH A w0 w Γ) (i : Nat) (hi : Γ[i]? = some (.ow e v xs)) : SH A w0 w (Γ.set i (.rd v xs)) := by
  refine h.set hi (Grow.refl w _) (by simp [Fact.owns]) (by simp [Fact.owns]) ?_
  obtain ⟨l1, l2, e1, e2⟩ := owns_set (f' := .rd v xs) hi
  have hn := h.nd
  rw [e1] at hn
  simp only [Fact.owns, List.append_nil] at e1 e2 hn
  refine .mk_sl (Ow.rdS (h.get i hi) ?_ ?_)
  · rintro k (hk | hk)
    · exact .inl hk
    · right; rw [e2] at hk; rw [e1]
      rcases List.mem_append.1 hk with hk | hk <;> simp [hk]
  · rintro b hb (hk | hk)
    · have h1 := h.av b hk
      have h2 := (h.ge b (by rw [e1]; simp [hb])).1
      omega
    · rw [e2] at hk
      simp only [List.append_assoc, List.nodup_append] at hn
      rcases List.mem_append.1 hk with hk | hk
      · exact hn.2.2 b hk b (by simp [hb]) rfl
      · exact hn.2.1.2.2 b (by simp [hb]) b hk rfl
theorem SH.ow_nil {α : Type} [Rep α] (e : TypeId) (h : SH A w0 w Γ) : SH A w0 w (.ow e (.slice none 0 0) ([] : List α) :: Γ) :=
  h.cons (Grow.refl w []) (by simp [Fact.owns, Value.ownBlock]) (by simp [Fact.owns, Value.ownBlock]) ⟨[], World.ownsRow_nil w 0 e _, rfl⟩

theorem Fact.tok_lt {A : Nat → Prop} {B : Nat} {w : World} {f : Fact} (h : f.holds A B w) : ∀ b ∈ f.toks, b < w.heap.size ∧ ¬ A b := by
  cases f with
  | od e v xs Bs =>
    exact h.2
  | tkn v x Bs =>
    exact h.2
  | _ => intro b hb; simp [Fact.toks] at hb
theorem SH.tlt (h : SH A w0 w Γ) : ∀ b ∈ Γ.toks, b < w.heap.size ∧ b ∉ Γ.owns := by
  intro b hb
  obtain ⟨f, hf, hb'⟩ := List.mem_flatMap.1 hb
  obtain ⟨h1, h2⟩ := Fact.tok_lt (h.all f hf) b hb'
  exact ⟨h1, fun hk => h2 (.inr hk)⟩

def Fact.plain : Fact → Bool
  | @Fact.pa _ _ _ _ => false
  | _ => true
/-- What a callee leaves, joined to what the caller has. -/
theorem SH.join (h : SH A w0 w Γ) (k : SH (fun k => A k ∨ k ∈ Γ.owns) w w' Δ) (hp : Δ.all Fact.plain = true) : SH A w0 w' (Δ ++ Γ) := by
  have ho : Ctx.owns (Δ ++ Γ) = Δ.owns ++ Γ.owns := by simp [Ctx.owns]
  have hlt : w.heap.size ≤ w'.heap.size := k.below.size
  have hg : Grow w w' [] := Grow.of_below k.below []
  have h2 := h.grow hg
  have ht : Ctx.toks (Δ ++ Γ) = Δ.toks ++ Γ.toks := by simp [Ctx.toks]
  refine ⟨h2.below, h.av, ?_, ?_, ?_, ?_, ?_⟩
  rotate_left 2
  · rw [ht, List.nodup_append]
    refine ⟨k.tnd, h.tnd, fun a ha b hb e => ?_⟩
    subst e
    have h1 := k.tge a ha
    have h3 := (h.tlt a hb).1
    omega
  · intro b hb
    rw [ht] at hb
    rcases List.mem_append.1 hb with hb | hb
    · exact Nat.le_trans h.lt (k.tge b hb)
    · exact h.tge b hb
  rotate_right 2
  · rw [ho, List.nodup_append]
    refine ⟨k.nd, h.nd, fun a ha b hb e => ?_⟩
    subst e
    have h1 := (k.ge a ha).1
    have h3 := (h.ge a hb).2
    omega
  · intro b hb
    rw [ho] at hb
    rcases List.mem_append.1 hb with hb | hb
    · exact ⟨Nat.le_trans h.lt (k.ge b hb).1, (k.ge b hb).2⟩
    · exact h2.ge b hb
  · intro f hf
    rcases List.mem_append.1 hf with hf | hf
    · have hk := k.all f hf
      have hpl := List.all_eq_true.1 hp f hf
      have hk' : f.holds (fun k => A k ∨ k ∈ Ctx.owns (Δ ++ Γ)) w.heap.size w' := by
        refine Fact.frame hk (fun _ _ => rfl) (fun _ _ => rfl) (fun j _ ha => ⟨rfl, ?_⟩)
        rintro (hj | hj)
        · exact ha (.inl (.inl hj))
        · rw [ho] at hj
          rcases List.mem_append.1 hj with hj | hj
          · exact ha (.inr hj)
          · exact ha (.inl (.inr hj))
      cases f with
      | pa p x => simp [Fact.plain] at hpl
      | _ => exact hk'
    · refine Fact.frame (h.all f hf) (fun b hb => hg.block b (h.ge b (List.mem_flatMap.2 ⟨f, hf, hb⟩)).2 (by simp)) (fun j hj => hg.block j (Nat.lt_of_lt_of_le hj h.lt) (by simp)) (fun j hj ha => ⟨hg.block j hj (by simp), ?_⟩)
      rintro (hj' | hj')
      · exact ha (.inl hj')
      · rw [ho] at hj'
        rcases List.mem_append.1 hj' with hj' | hj'
        · have := (k.ge j hj').1; omega
        · exact ha (.inr hj')
theorem SH.join0 (h : SH A w0 w Γ) (k : SH nowhere w w' []) : SH A w0 w' Γ := h.grow (Grow.of_below k.below [])
theorem SH.av' (h : SH A w0 w Γ) : ∀ k, (A k ∨ k ∈ Γ.owns) → k < w.heap.size := by
  rintro k (hk | hk)
  · exact Nat.lt_of_lt_of_le (h.av k hk) h.lt
  · exact (h.ge k hk).2
/-- The begin of a call. -/
theorem SH.start (hA : ∀ k, A k → k < w.heap.size) : SH A w w [] := ⟨Below.refl _ _, hA, by simp [Ctx.owns], by simp [Ctx.owns], by simp [Ctx.toks], by simp [Ctx.toks], by simp⟩
theorem SH.start_pa {α : Type} [Rep α] {p : Value} {x : α} (h : SH A w w Γ) (hx : RdA (fun k => A k ∨ k ∈ Γ.owns) w.heap.size w p x) : SH A w w (.pa p x :: Γ) :=
  h.cons (Grow.refl w []) (by simp [Fact.owns]) (by simp [Fact.owns]) (by simpa [Fact.holds, Ctx.owns, Fact.owns] using hx)
end

/-! ### Contracts and calls -/
section
variable {R : Type} {P : Program} {n : Nat} {A : Nat → Prop} {w0 : World} {Q : R → Exit → Act → World → Prop} {ρ ρ' : Env} {Γ Γ' : Ctx} {E : Option R}
variable {d : Option Nat} {ty : TypeId} {pos : String} {after : Array Edge} {g : Option (Nat × Bool)}

def evL (ρ : Env) : List Operand → Option (List Value)
  | [] => some []
  | x :: r => match ev ρ x, evL ρ r with
    | some v, some vs => some (v :: vs)
    | _, _ => none
theorem Sat.evalL {a : Act} (h : Sat n ρ a) : ∀ {l : List Operand} {vs : List Value}, evL ρ l = some vs → l.map a.eval = vs
  | [], vs, hv => by simp [evL] at hv; simp [hv]
  | x :: r, vs, hv => by
    simp only [evL] at hv
    split at hv
    · rename_i v us h1 h2
      simp at hv
      subst hv
      simp [h.eval h1, Sat.evalL h h2]
    · simp at hv

/-- What a function does, called at the values vs in the world w: it returns 'v x' for some x, and leaves the facts 'fs x'. -/
def Con (P : Program) (f : FuncId) (vs : List Value) (A : Nat → Prop) (w : World) {G : Type} (v : G → Value) (fs : G → Ctx) : Prop :=
  Calls P f vs.toArray w fun e w' => ∃ x, e = .returned (v x) ∧ SH A w w' (fs x)

def Ca (P : Program) (A : Nat → Prop) (w0 : World) (Γ : Ctx) (f : FuncId) (vs : List Value) {G : Type} (v : G → Value) (Γ' : G → Ctx) : Prop :=
  ∀ w, SH A w0 w Γ → Calls P f vs.toArray w fun e w' => ∃ x, e = .returned (v x) ∧ SH A w0 w' (Γ' x) ∧ Grow w w' [] ∧ OwnNew Γ (Γ' x) w
theorem Ca_of {f : FuncId} {vs : List Value} {G : Type} {v : G → Value} {fs : G → Ctx} (hp : ∀ x, (fs x).all Fact.plain = true) (h : ∀ w, SH A w0 w Γ → Con P f vs (fun k => A k ∨ k ∈ Γ.owns) w v fs) : Ca P A w0 Γ f vs v (fun x => fs x ++ Γ) :=
  fun w hh => (h w hh).mono fun _ _ ⟨x, he, hk⟩ => ⟨x, he, hh.join hk (hp x), Grow.of_below hk.below [], fun b hb => by
    simp only [Ctx.owns, List.flatMap_append, List.mem_append] at hb
    rcases hb with hb | hb
    · exact .inr (hk.ge b hb).1
    · exact .inl hb⟩
/-- The callee hands no memory out. -/
theorem Ca_of0 {f : FuncId} {vs : List Value} {G : Type} {v : G → Value} (h : ∀ w, SH A w0 w Γ → Con P f vs nowhere w v (fun _ => [])) : Ca P A w0 Γ f vs v (fun _ => Γ) :=
  fun w hh => (h w hh).mono fun _ _ ⟨x, he, hk⟩ => ⟨x, he, hh.join0 hk, Grow.of_below hk.below [], .refl _ _⟩

theorem JL_call {ops : Array Oper} {rest : List Oper} {d : Nat} {f : FuncId} {args : List Operand} {ats : Array TypeId} {vs : List Value} {G : Type} {v : G → Value} {Γ' : G → Ctx}
    (hw : Wants n ρ ops ⟨some d, .call ⟨.value (.func f), args.toArray, ats⟩, ty, pos, after, g⟩) (hd : Nat.blt d n = true)
    (hf : ∀ args w, (callFunc f args).run P w = .ok (.enter f args) w) (hargs : evL ρ args = some vs) (hC : Ca P A w0 Γ f vs v Γ')
    (h : ∀ x, JL P n A w0 ops rest Q ((d, v x) :: ρ) (Γ' x) E) : JL P n A w0 ops (⟨some d, .call ⟨.value (.func f), args.toArray, ats⟩, ty, pos, after, g⟩ :: rest) Q ρ Γ E := by
  intro r hr a w hs hh
  refine wpList_step fun K hK => ?_
  rw [hw a hs]
  simp only [if_true]
  have hrun : (execOp a.eval ⟨some d, .call ⟨.value (.func f), args.toArray, ats⟩, ty, pos, after, g⟩).run P w = .ok (.enter f vs.toArray) w := by
    simp [execOp, resolve, Act.eval, Deferred.ofValue, invoke, hs.evalL hargs, hf]
  unfold Oper.wp
  rw [hrun, Oper.upon_enter]
  refine (hC w hh).mono ?_
  rintro e w' ⟨x, rfl, hh', _⟩
  exact hK _ _ (h x r hr _ _ (hs.put (by simpa [Nat.blt_eq] using hd)) hh')

/-- The post of a function's body. -/
def Post {R : Type} (A : Nat → Prop) (w0 : World) {G : Type} (v : R → G → Value) (fs : R → G → Ctx) : R → Ending → World → Prop :=
  fun r e w' => ∃ x, e = .returned (v r x) ∧ SH A w0 w' (fs r x)
def enum : Nat → List Value → Env
  | _, [] => []
  | k, v :: r => (k, v) :: enum (k + 1) r
theorem enum_get : ∀ (vs : List Value) (k t : Nat) (v : Value), (enum k vs).get t = some v → k ≤ t ∧ vs[t - k]? = some v
  | [], k, t, v, h => by simp [enum, Env.get] at h
  | u :: r, k, t, v, h => by
    simp only [enum, Env.get] at h
    by_cases e : k = t
    · subst e
      simp at h
      simp [h]
    · rw [beq_false_of e] at h
      obtain ⟨h1, h2⟩ := enum_get r (k + 1) t v (by simpa using h)
      refine ⟨by omega, ?_⟩
      rw [show t - k = (t - (k + 1)) + 1 by omega]
      simpa using h2
theorem Con_of {f : FuncId} {fn : Func} {body : Code} {vs : List Value} {G : Type} {v : R → G → Value} {fs : R → G → Ctx} {r : R} {w : World}
    (hf : P.funcs[f]? = some fn) (hb : fn.body = some body) (hn : fn.ntmps = n) (hl : Nat.ble vs.length n = true) (hΓ : SH A w w Γ) (hρ : enum 0 vs = ρ)
    (h : J P n A w body (QBody P fn (Post A w v fs)) ρ Γ E) (hE : E = some r) : Con P f vs A w (v r) (fs r) := by
  refine calls_of_wp hf hb ?_
  refine h r hE _ w ⟨?_, rfl, ?_⟩ hΓ
  · simp [Nat.ble_eq] at hl
    simp [hn]; omega
  · intro t u ht
    rw [← hρ] at ht
    obtain ⟨_, h2⟩ := enum_get vs 0 t u ht
    simp at h2
    have hlt : t < vs.length := (List.getElem?_eq_some_iff.1 h2).1
    simp [Nat.ble_eq] at hl
    refine ⟨?_, by omega⟩
    simp [Array.getD_eq_getD_getElem?, Array.getElem?_append_left (show t < vs.toArray.size by simpa using hlt), h2]

/-- A result variable's value. -/
def rvSem (tmps : Array Value) : ResultVar → Sem Value
  | .tmp t => pure (tmps.getD t undef)
  | .cell a t => do loadVar t (← asAddr (tmps.getD a undef))
theorem results_rv (fn : Func) (tmps : Array Value) : results fn tmps = (do let vs ← fn.results.mapM (rvSem tmps); pure (if h : vs.size = 1 then vs[0] else .tuple vs)) := by
  unfold results
  congr 1
def Rv (P : Program) (n : Nat) (A : Nat → Prop) (w0 : World) (ρ : Env) (Γ : Ctx) (rv : ResultVar) (u : Value) : Prop :=
  ∀ a w, Sat n ρ a → SH A w0 w Γ → (rvSem a.tmps rv).run P w = .ok u w
theorem rv_tmp {t : Nat} {u : Value} (h : ρ.get t = some u) : Rv P n A w0 ρ Γ (.tmp t) u := fun a w hs _ => by
  have := (hs.get t u h).1
  simp only [rvSem, this]
  rfl
theorem rv_cell {p : Nat} {t t' : TypeId} {b s : Nat} {cs : List Value} (i : Nat) (hp : ρ.get p = some (.pointer (some ⟨b, 0, none⟩))) (hi : Γ[i]? = some (.bx b t' cs)) (ht : tinf P t = some (s, true)) (hl : cs.length = s) : Rv P n A w0 ρ Γ (.cell p t) (.agg cs.toArray) := fun a w hs hh => by
  have h1 := (hs.get p _ hp).1
  have hb := hh.get i hi
  have hc := run_loadCells_list (P := P) w ⟨b, 0, none⟩ cs (fun j v hj => by rw [Addr.add_lit]; exact cell_of_bx hb (by simpa using hj))
  rw [hl] at hc
  simp only [rvSem, h1]
  simp [asAddr, loadVar, tinf_agg ht, tinf_size ht, hc]
theorem N_ret1 {fn : Func} {rv : ResultVar} {u : Value} {G : Type} {v : R → G → Value} {fs : R → G → Ctx} {r : R} (hres : fn.results = #[rv]) (hu : Rv P n A w0 ρ Γ rv u)
    (h : ∀ w, SH A w0 w Γ → ∃ x, u = v r x ∧ SH A w0 w (fs r x)) : N n A w0 (QBody P fn (Post A w0 v fs)) .ret ρ Γ (some r) := by
  rintro r' hr a w hs hh
  cases hr
  refine ⟨hs.defers, u, ?_, ?_⟩
  · rw [results_rv, hres]
    simp [hu a w hs hh]
  · obtain ⟨x, rfl, hx⟩ := h w hh
    exact ⟨x, rfl, hx⟩
theorem N_ret2 {fn : Func} {rv1 rv2 : ResultVar} {u1 u2 : Value} {G : Type} {v : R → G → Value} {fs : R → G → Ctx} {r : R} (hres : fn.results = #[rv1, rv2]) (hu1 : Rv P n A w0 ρ Γ rv1 u1) (hu2 : Rv P n A w0 ρ Γ rv2 u2)
    (h : ∀ w, SH A w0 w Γ → ∃ x, .tuple #[u1, u2] = v r x ∧ SH A w0 w (fs r x)) : N n A w0 (QBody P fn (Post A w0 v fs)) .ret ρ Γ (some r) := by
  rintro r' hr a w hs hh
  cases hr
  refine ⟨hs.defers, .tuple #[u1, u2], ?_, ?_⟩
  · rw [results_rv, hres]
    simp [hu1 a w hs hh, hu2 a w hs hh]
  · obtain ⟨x, hx1, hx⟩ := h w hh
    exact ⟨x, by rw [hx1], hx⟩
theorem N_ret3 {fn : Func} {rv1 rv2 rv3 : ResultVar} {u1 u2 u3 : Value} {G : Type} {v : R → G → Value} {fs : R → G → Ctx} {r : R} (hres : fn.results = #[rv1, rv2, rv3]) (hu1 : Rv P n A w0 ρ Γ rv1 u1) (hu2 : Rv P n A w0 ρ Γ rv2 u2) (hu3 : Rv P n A w0 ρ Γ rv3 u3)
    (h : ∀ w, SH A w0 w Γ → ∃ x, .tuple #[u1, u2, u3] = v r x ∧ SH A w0 w (fs r x)) : N n A w0 (QBody P fn (Post A w0 v fs)) .ret ρ Γ (some r) := by
  rintro r' hr a w hs hh
  cases hr
  refine ⟨hs.defers, .tuple #[u1, u2, u3], ?_, ?_⟩
  · rw [results_rv, hres]
    simp [hu1 a w hs hh, hu2 a w hs hh, hu3 a w hs hh]
  · obtain ⟨x, hx1, hx⟩ := h w hh
    exact ⟨x, by rw [hx1], hx⟩
end
end Go.Tc
