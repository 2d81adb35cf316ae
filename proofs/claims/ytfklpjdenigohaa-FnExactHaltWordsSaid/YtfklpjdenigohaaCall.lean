/-
  The calculus, further: marks on data with tokens, calls walked in place, parts of rows handed on, more operations. No condition.
-/
import Derived.Test.YtfklpjdenigohaaMark
import Derived.Laws.Small
import Derived.Lib.SliceRun
import Derived.Lib.AppendZerosOnto
namespace Go.Tc
open Go Go.RowKit

section
variable {R : Type} {P : Program} {n : Nat} {A : Nat → Prop} {w0 w w' : World} {Q : R → Exit → Act → World → Prop} {ρ ρ' : Env} {Γ Γ' : Ctx} {E : Option R}
variable {d : Option Nat} {ty : TypeId} {pos : String} {after : Array Edge} {g : Option (Nat × Bool)}

/-- A datum with tokens is written; what else has tokens or is owned stays, and so does what was known at the begin. -/
theorem SH.thaw {α : Type} [Rep α] {v : Value} {x x' : α} {B B0 : List Nat} {Δ : Ctx} (h : SH A w0 w Γ) (i : Nat) (hi : Γ[i]? = some (.tkn v x B)) (hsub : ∀ b ∈ B0, b ∈ B) (hg : Grow w w' B0) (hd : Dc w' v x' B0) (hn0 : B0.Nodup)
    (js : List Nat) (hn : ndup (i :: js) = true) (hrob : (Tc.sel js Γ).all Fact.robust = true) (hΔ : SH A w0 w0 Δ) (hΔo : Δ.all (fun f => f.owns.isEmpty && f.toks.isEmpty) = true) :
    SH A w0 w' (.rd v x' :: .tkn v x' B :: (Δ ++ Tc.sel js Γ)) := by
  have hn' := hn
  simp only [ndup, Bool.and_eq_true, Bool.not_eq_true', List.any_eq_false] at hn'
  have hne : ∀ k ∈ js, k ≠ i := fun k hk e => hn'.1 k hk (by subst e; exact Nat.beq_refl k)
  have hBt : ∀ b ∈ B, b ∈ Γ.toks := fun b hb => List.mem_flatMap.2 ⟨_, List.mem_of_getElem? hi, hb⟩
  have hsel := h.sel js hn'.2
  have hso : ∀ b ∈ (Tc.sel js Γ).owns, b ∈ Γ.owns := fun b hb => by
    obtain ⟨m, _, f, hf, hbf⟩ := sel_owns js Γ b hb
    exact List.mem_flatMap.2 ⟨f, List.mem_of_getElem? hf, hbf⟩
  have hbel : Below w0.heap.size w0 w' := h.below.trans ⟨hg.os, hg.tape, hg.output, hg.size, fun k hk => hg.block k (Nat.lt_of_lt_of_le hk h.lt) (fun hm => by have := h.tge k (hBt k (hsub k hm)); omega)⟩
  have h1 : SH A w0 w' (Tc.sel js Γ) := by
    refine ⟨hbel, h.av, hsel.nd, fun b hb => ⟨(hsel.ge b hb).1, Nat.lt_of_lt_of_le (hsel.ge b hb).2 hg.size⟩, hsel.tnd, hsel.tge, fun f hf => ?_⟩
    obtain ⟨m, hm, hmf⟩ := sel_mem js Γ f hf
    refine Fact.robust_frame (List.all_eq_true.1 hrob f hf) (hsel.all f hf) (fun b hb => ?_) (fun b hb => ⟨?_, ?_⟩)
    · have hbo : b ∈ Γ.owns := List.mem_flatMap.2 ⟨f, List.mem_of_getElem? hmf, hb⟩
      exact hg.block b (h.ge b hbo).2 (fun hk => (h.tlt b (hBt b (hsub b hk))).2 hbo)
    · have hbt : b ∈ Γ.toks := List.mem_flatMap.2 ⟨f, List.mem_of_getElem? hmf, hb⟩
      exact hg.block b (h.tlt b hbt).1 (fun hk => nodup_twoG (g := Fact.toks) h.tnd hmf hi (hne m hm) hb (hsub b hk))
    · exact (Fact.tok_lt (hsel.all f hf) b hb).2
  have hem : ∀ f ∈ Δ, f.owns = [] ∧ f.toks = [] := fun f hf => by
    have := List.all_eq_true.1 hΔo f hf
    simpa using this
  have h2 : SH A w0 w' (Δ ++ Tc.sel js Γ) := by
    refine h1.adds fun f hf => ⟨hem f hf, ?_⟩
    refine Fact.frame (hΔ.all f hf) (fun b hb => by rw [(hem f hf).1] at hb; simp at hb) (fun k hk => hbel.block k hk) (fun k hk ha => ⟨hbel.block k hk, ?_⟩)
    rintro (hk' | hk')
    · exact ha (.inl hk')
    · have := (h1.ge k hk').1; omega
  have hto : Ctx.toks (Δ ++ Tc.sel js Γ) = (Tc.sel js Γ).toks := by
    have : Ctx.toks Δ = [] := by
      simp only [Ctx.toks, List.flatMap_eq_nil_iff]
      exact fun f hf => (hem f hf).2
    simp only [Ctx.toks, List.flatMap_append] at this ⊢
    rw [this, List.nil_append]
  have hoo : Ctx.owns (Δ ++ Tc.sel js Γ) = (Tc.sel js Γ).owns := by
    have : Ctx.owns Δ = [] := by
      simp only [Ctx.owns, List.flatMap_eq_nil_iff]
      exact fun f hf => (hem f hf).1
    simp only [Ctx.owns, List.flatMap_append] at this ⊢
    rw [this, List.nil_append]
  have h3 : SH A w0 w' (.tkn v x' B :: (Δ ++ Tc.sel js Γ)) := by
    refine h2.consT (Grow.refl w' []) (by simp [Fact.owns]) (by simp [Fact.owns]) ⟨⟨B0, hd, hn0, hsub⟩, fun b hb => ⟨Nat.lt_of_lt_of_le (h.tlt b (hBt b hb)).1 hg.size, ?_⟩⟩ ?_ (fun b hb => h.tge b (hBt b hb))
    · have ho : Ctx.owns (Fact.tkn v x' B :: (Δ ++ Tc.sel js Γ)) = (Tc.sel js Γ).owns := by
        have : Ctx.owns (Fact.tkn v x' B :: (Δ ++ Tc.sel js Γ)) = Ctx.owns (Δ ++ Tc.sel js Γ) := by simp [Ctx.owns, Fact.owns]
        rw [this, hoo]
      rw [ho]
      rintro (hk | hk)
      · have h5 := h.av b hk
        have h6 := h.tge b (hBt b hb)
        omega
      · exact (h.tlt b (hBt b hb)).2 (hso b hk)
    · rw [hto]
      show (B ++ (Tc.sel js Γ).toks).Nodup
      have := sel_nodupG (r := Fact.toks) (i :: js) Γ hn h.tnd
      simp only [Tc.sel, hi, List.flatMap_cons] at this
      exact this
  exact h3.tkn_rd 0 rfl

/-- A call that marks a datum with tokens. -/
theorem JL_mark {α : Type} [Rep α] {ops : Array Oper} {rest : List Oper} {d : Nat} {f : FuncId} {args : List Operand} {ats : Array TypeId} {v : Value} {xs : List α} {B : List Nat} {k : Int} {F : List α → Int → Option (Int × List α)} {r' : Int × List α} {Δ : Ctx} (i : Nat) (js : List Nat) (hM : MarkCon P f F)
    (hw : Wants n ρ ops ⟨some d, .call ⟨.value (.func f), args.toArray, ats⟩, ty, pos, after, g⟩) (hd : Nat.blt d n = true)
    (hf : ∀ args w, (callFunc f args).run P w = .ok (.enter f args) w) (hargs : evL ρ args = some [v, .int .i64 k]) (hi : Γ[i]? = some (.tkn v xs B)) (hn : ndup (i :: js) = true) (hrob : (sel js Γ).all Fact.robust = true)
    (hΔ : SH A w0 w0 Δ) (hΔo : Δ.all (fun f => f.owns.isEmpty && f.toks.isEmpty) = true) (hr' : F xs k = some r')
    (h : JL P n A w0 ops rest Q ((d, .int .i64 r'.1) :: ρ) (.rd v r'.2 :: .tkn v r'.2 B :: (Δ ++ sel js Γ)) E) : JL P n A w0 ops (⟨some d, .call ⟨.value (.func f), args.toArray, ats⟩, ty, pos, after, g⟩ :: rest) Q ρ Γ E := by
  intro r hr a w hs hh
  refine wpList_step fun K hK => ?_
  rw [hw a hs]
  simp only [if_true]
  unfold Oper.wp
  rw [run_mark hs hf hargs, Oper.upon_enter]
  obtain ⟨⟨B0, h1, h2, h3⟩, h4⟩ := hh.get i hi
  refine (hM w v xs B0 k r' h1.ds h2 hr').mono ?_
  rintro e w' ⟨rfl, hd', hg⟩
  exact hK _ _ (h r hr _ _ (hs.put (by simpa [Nat.blt_eq] using hd)) (hh.thaw i hi h3 hg hd'.dc h2 js hn hrob hΔ hΔo))

/-! ### A call walked in place -/
def QInl (P : Program) (fn : Func) (K : R → Value → World → Prop) : R → Exit → Act → World → Prop := fun r => bodyPost P fn (fun e w => ∃ u, e = .returned u ∧ K r u w)
/-- What goes on behind the call. -/
def Behind (P : Program) (n : Nat) (A : Nat → Prop) (w0 : World) (ops : Array Oper) (rest : List Oper) (Q : R → Exit → Act → World → Prop) (d : Nat) (ρ : Env) (K : R → Value → World → Prop) : Prop :=
  ∀ u Γ' E', JL P n A w0 ops rest Q ((d, u) :: ρ) Γ' E' → ∀ r, E' = some r → ∀ w, SH A w0 w Γ' → K r u w
theorem JL_inline {ops : Array Oper} {rest : List Oper} {d : Nat} {f : FuncId} {fn : Func} {body : Code} {n' : Nat} {args : List Operand} {ats : Array TypeId} {vs : List Value}
    (hw : Wants n ρ ops ⟨some d, .call ⟨.value (.func f), args.toArray, ats⟩, ty, pos, after, g⟩) (hd : Nat.blt d n = true)
    (hf : ∀ args w, (callFunc f args).run P w = .ok (.enter f args) w) (hargs : evL ρ args = some vs) (hfn : P.funcs[f]? = some fn) (hb : fn.body = some body) (hn : fn.ntmps = n') (hl : Nat.ble vs.length n' = true) (hρ : enum 0 vs = ρ')
    (h : ∀ K : R → Value → World → Prop, Behind P n A w0 ops rest Q d ρ K → J P n' A w0 body (QInl P fn K) ρ' Γ E) : JL P n A w0 ops (⟨some d, .call ⟨.value (.func f), args.toArray, ats⟩, ty, pos, after, g⟩ :: rest) Q ρ Γ E := by
  intro r hr a w hs hh
  refine wpList_step fun K hK => ?_
  rw [hw a hs]
  simp only [if_true]
  unfold Oper.wp
  rw [run_mark hs hf hargs, Oper.upon_enter]
  refine (calls_of_wp hfn hb (R := fun e w' => ∃ u, e = .returned u ∧ wpList P ops (Q r) rest (a.put (some d) u) w') ?_).mono ?_
  · have hJ := h (fun r u w' => wpList P ops (Q r) rest (a.put (some d) u) w') (fun u Γ' E' hJL r hE w hw' => hJL r hE _ w (hs.put (by simpa [Nat.blt_eq] using hd)) hw')
    refine hJ r hr _ w ⟨?_, rfl, ?_⟩ hh
    · simp [Nat.ble_eq] at hl
      simp [hn]; omega
    · intro t u ht
      rw [← hρ] at ht
      obtain ⟨_, h2⟩ := enum_get vs 0 t u ht
      simp at h2
      have hlt : t < vs.length := (List.getElem?_eq_some_iff.1 h2).1
      simp [Nat.ble_eq] at hl
      refine ⟨?_, by omega⟩
      simp [Array.getD_eq_getD_getElem?, Array.getElem?_append_left (show t < vs.toArray.size by simpa using hlt), h2]
  · rintro e w' ⟨u, rfl, hu⟩
    exact hK _ _ hu
theorem N_inl0 {fn : Func} {n2 : Nat} {ρ2 : Env} {ops : Array Oper} {rest : List Oper} {d : Nat} {K : R → Value → World → Prop} {e : Exit} (he : e = .ret ∨ e = .normal) (hK : Behind P n A w0 ops rest Q d ρ K) (hres : fn.results = #[])
    (h : JL P n A w0 ops rest Q ((d, .tuple #[]) :: ρ) Γ E) : N n2 A w0 (QInl P fn K) e ρ2 Γ E := by
  intro r hr a w hs hh
  have key : a.defers = [] ∧ ∃ u, (results fn a.tmps).run P w = .ok u w ∧ (∃ u', Ending.returned u = .returned u' ∧ K r u' w) := by
    refine ⟨hs.defers, .tuple #[], ?_, _, rfl, hK _ _ _ h r hr w hh⟩
    rw [results_rv, hres]
    simp
  rcases he with rfl | rfl <;> exact key
theorem N_inl1 {fn : Func} {n2 : Nat} {ρ2 : Env} {ops : Array Oper} {rest : List Oper} {d : Nat} {K : R → Value → World → Prop} {rv : ResultVar} {u : Value} (hK : Behind P n A w0 ops rest Q d ρ K) (hres : fn.results = #[rv]) (hu : Rv P n2 A w0 ρ2 Γ rv u)
    (h : JL P n A w0 ops rest Q ((d, u) :: ρ) Γ E) : N n2 A w0 (QInl P fn K) .ret ρ2 Γ E := by
  intro r hr a w hs hh
  refine ⟨hs.defers, u, ?_, _, rfl, hK _ _ _ h r hr w hh⟩
  rw [results_rv, hres]
  simp [hu a w hs hh]
theorem N_inl2 {fn : Func} {n2 : Nat} {ρ2 : Env} {ops : Array Oper} {rest : List Oper} {d : Nat} {K : R → Value → World → Prop} {rv1 rv2 : ResultVar} {u1 u2 : Value} (hK : Behind P n A w0 ops rest Q d ρ K) (hres : fn.results = #[rv1, rv2]) (hu1 : Rv P n2 A w0 ρ2 Γ rv1 u1) (hu2 : Rv P n2 A w0 ρ2 Γ rv2 u2)
    (h : JL P n A w0 ops rest Q ((d, .tuple #[u1, u2]) :: ρ) Γ E) : N n2 A w0 (QInl P fn K) .ret ρ2 Γ E := by
  intro r hr a w hs hh
  refine ⟨hs.defers, .tuple #[u1, u2], ?_, _, rfl, hK _ _ _ h r hr w hh⟩
  rw [results_rv, hres]
  simp [hu1 a w hs hh, hu2 a w hs hh]
theorem N_inl3 {fn : Func} {n2 : Nat} {ρ2 : Env} {ops : Array Oper} {rest : List Oper} {d : Nat} {K : R → Value → World → Prop} {rv1 rv2 rv3 : ResultVar} {u1 u2 u3 : Value} (hK : Behind P n A w0 ops rest Q d ρ K) (hres : fn.results = #[rv1, rv2, rv3]) (hu1 : Rv P n2 A w0 ρ2 Γ rv1 u1) (hu2 : Rv P n2 A w0 ρ2 Γ rv2 u2) (hu3 : Rv P n2 A w0 ρ2 Γ rv3 u3)
    (h : JL P n A w0 ops rest Q ((d, .tuple #[u1, u2, u3]) :: ρ) Γ E) : N n2 A w0 (QInl P fn K) .ret ρ2 Γ E := by
  intro r hr a w hs hh
  refine ⟨hs.defers, .tuple #[u1, u2, u3], ?_, _, rfl, hK _ _ _ h r hr w hh⟩
  rw [results_rv, hres]
  simp [hu1 a w hs hh, hu2 a w hs hh, hu3 a w hs hh]

/-! ### Ways that are not asked -/
theorem J_none {c : Code} : J P n A w0 c Q ρ Γ none := fun _ hr => by cases hr
theorem JL_none {ops : Array Oper} {l : List Oper} : JL P n A w0 ops l Q ρ Γ none := fun _ hr => by cases hr
theorem N_none {e : Exit} : N n A w0 Q e ρ Γ none := fun _ hr => by cases hr
theorem JL_conv {ops : Array Oper} {l : List Oper} {E' : Option R} (he : E = E') (h : JL P n A w0 ops l Q ρ Γ E') : JL P n A w0 ops l Q ρ Γ E := he ▸ h

/-! ### More operations -/
theorem ex_max {x y : Operand} {t u : TypeId} {m l : Int} (hx : ev ρ x = some (.int .i64 m)) (hy : ev ρ y = some (.int .i64 l)) : Ex P n A w0 ρ Γ ⟨d, .call ⟨.builtin .max, #[x, y], #[t, u]⟩, ty, pos, after, g⟩ (.int .i64 (if l > m then l else m)) := by
  intro a w hs hh
  simp [execOp, resolve, invoke, builtin, hs.eval hx, hs.eval hy, run_max_int2]
theorem ex_min {x y : Operand} {t u : TypeId} {m l : Int} (hx : ev ρ x = some (.int .i64 m)) (hy : ev ρ y = some (.int .i64 l)) : Ex P n A w0 ρ Γ ⟨d, .call ⟨.builtin .min, #[x, y], #[t, u]⟩, ty, pos, after, g⟩ (.int .i64 (if l < m then l else m)) := by
  intro a w hs hh
  simp [execOp, resolve, invoke, builtin, hs.eval hx, hs.eval hy, run_min_int2]
/-- Is it the nil slice? What it reads as does not tell. -/
theorem JL_eqnil {α : Type} [Rep α] {ops : Array Oper} {rest : List Oper} {d : Nat} {x : Operand} {t u e : TypeId} {v : Value} {xs : List α} (i : Nat) (ht : P.underlying t = some (.slice e)) (hx : ev ρ x = some v) (hi : Γ[i]? = some (.rd v xs)) (hw : Wants n ρ ops ⟨some d, .binOp .eql t x (.const (.slice none 0 0)) u, ty, pos, after, g⟩) (hd : Nat.blt d n = true)
    (h1 : xs = [] → JL P n A w0 ops rest Q ((d, .bool true) :: ρ) Γ E) (h2 : JL P n A w0 ops rest Q ((d, .bool false) :: ρ) Γ E) : JL P n A w0 ops (⟨some d, .binOp .eql t x (.const (.slice none 0 0)) u, ty, pos, after, g⟩ :: rest) Q ρ Γ E := by
  intro r hr a w hs hh
  have key : ∃ b, (execOp a.eval ⟨some d, .binOp .eql t x (.const (.slice none 0 0)) u, ty, pos, after, g⟩).run P w = .ok (.value (.bool b)) w ∧ (b = true → xs = []) := by
    have hv : ∃ ad m cap, v = .slice ad m cap ∧ (ad = none → xs = []) := by
      rcases Rd.sl (hh.get i hi) with ⟨rfl, ad, cap, rfl, _⟩ | ⟨b, off, cap, cells, rfl, _⟩
      · exact ⟨ad, 0, cap, rfl, fun _ => rfl⟩
      · exact ⟨_, _, _, rfl, by simp⟩
    obtain ⟨ad, m, cap, rfl, hx'⟩ := hv
    refine ⟨ad.isNone, ?_, fun h => hx' (by simpa using h)⟩
    have hc : a.eval (.const (.slice none 0 0)) = .slice none 0 0 := rfl
    simp only [execOp, hs.eval hx, hc, eqGuard, Sem.run_bind]
    simp [Go.Lib.run_eql_slice_nil w t e ad m cap 0 0 ht]
  obtain ⟨b, hrun, hb⟩ := key
  refine wpList_step fun K hK => ?_
  rw [hw a hs]
  simp only [if_true]
  unfold Oper.wp
  rw [hrun, Oper.upon_value]
  cases b with
  | true => exact hK _ _ (h1 (hb rfl) r hr _ _ (hs.put (by simpa [Nat.blt_eq] using hd)) hh)
  | false => exact hK _ _ (h2 r hr _ _ (hs.put (by simpa [Nat.blt_eq] using hd)) hh)
end
end Go.Tc
